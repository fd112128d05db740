/- Part of the proof: the law FnServiceRun is true for every input. -/
import Derived.BigQuiet
import Derived.Deep.QuietTactic
import Derived.Lib.Join
import Derived.Shelf.LaysM
import Derived.Shelf.Small.Strs
import Derived.Shelf.Small.Utf8
import Derived.Shelf.Small.Wraps
import Derived.Shelf.Strconv.Itoa0
import Derived.Shelf.Strconv.Itoa1
import Derived.Shelf.Strconv.Itoa2
import Derived.Shelf.Strconv.Itoa3
import Derived.Shelf.Strings.AsciiSet
import Derived.Shelf.Strings.Builder1
import Derived.Shelf.Strings.Builder2
import Derived.Shelf.Strings.BuilderF
import Derived.Shelf.Strings.BuilderK
import Derived.Shelf.Strings.Count
import Derived.Shelf.Strings.Cut
import Derived.Shelf.Strings.OnBuilder
import Derived.Shelf.Strings.Prefix
import Derived.Shelf.Strings.Runes
import Derived.Shelf.Strings.Search1
import Derived.Shelf.Strings.Search2
import Derived.Shelf.Strings.Search3
import Derived.Shelf.Strings.Shaped
import Derived.Shelf.Strings.Split
import Derived.Shelf.Strings.SplitShaped
import Derived.Shelf.Strings.Trim
import Derived.Shelf.Unicode.DecodeSlow
import Derived.Test.YtjciicheoghcdaaGreatDoorProg
import Derived.Test.YtjciicheoghcdaaGreatDoorVa
import Derived.Test.YtjciicheoghcdaaGreatDoorVb
namespace Go.Proofs.YtjciicheoghcdaaGreatDoor
open Go.RowKit
set_option linter.all false
set_option maxRecDepth 20000
set_option maxHeartbeats 16000000
end Go.Proofs.YtjciicheoghcdaaGreatDoor
namespace Go.Proofs
open Go.Shelf
def Tryz.DN:Go.Shelf.Ren:=⟨fun|156=>60|165=>111|166=>112|169=>113|240=>154|241=>155|276=>201|277=>202|n=>n,fun|31=>48|9=>9|3=>3|4=>4|0=>0|20=>20|72=>146|76=>150|70=>144|37=>22|75=>149|127=>191|164=>227|5=>5|80=>152|n=>n,fun|n=>n⟩
theorem Tryz.ue:Go.Proofs.Lays.n156 Tryz.prog Tryz.DN:= {
 mixed:=by kernel_rfl
 f156:=Tryz.func60.trans (congrArg some (by kernel_rfl))
 f165:=Tryz.func111.trans (congrArg some (by kernel_rfl))
 f166:=Tryz.func112.trans (congrArg some (by kernel_rfl))
 f169:=Tryz.func113.trans (congrArg some (by kernel_rfl))
 f240:=Tryz.func154.trans (congrArg some (by kernel_rfl))
 f241:=Tryz.func155.trans (congrArg some (by kernel_rfl))
 f276:=Tryz.func201.trans (congrArg some (by kernel_rfl))
 f277:=Tryz.func202.trans (congrArg some (by kernel_rfl))
 t0:=Tryz.underlying0
 a0:=Tryz.isAgg0
 z0:=Tryz.sizeOf0
 v0:=Tryz.zeroValue0
 t3:=Tryz.underlying3
 a3:=Tryz.isAgg3
 z3:=Tryz.sizeOf3
 v3:=Tryz.zeroValue3
 t4:=Tryz.underlying4
 a4:=Tryz.isAgg4
 z4:=Tryz.sizeOf4
 v4:=Tryz.zeroValue4
 t9:=Tryz.underlying9
 a9:=Tryz.isAgg9
 z9:=Tryz.sizeOf9
 v9:=Tryz.zeroValue9
 t20:=Tryz.underlying20
 a20:=Tryz.isAgg20
 z20:=Tryz.sizeOf20
 v20:=Tryz.zeroValue20
 t31:=Tryz.underlying48
 a31:=Tryz.isAgg48
 z31:=Tryz.sizeOf48
 v31:=Tryz.zeroValue48
 t37:=Tryz.underlying22
 a37:=Tryz.isAgg22
 z37:=Tryz.sizeOf22
 v37:=Tryz.zeroValue22
 t70:=Tryz.underlying144
 a70:=Tryz.isAgg144
 z70:=Tryz.sizeOf144
 v70:=Tryz.zeroValue144
 t72:=Tryz.underlying146
 a72:=Tryz.isAgg146
 z72:=Tryz.sizeOf146
 v72:=Tryz.zeroValue146
 t75:=Tryz.underlying149
 a75:=Tryz.isAgg149
 z75:=Tryz.sizeOf149
 v75:=Tryz.zeroValue149
 t76:=Tryz.underlying150
 a76:=Tryz.isAgg150
 z76:=Tryz.sizeOf150
 v76:=Tryz.zeroValue150
 t127:=Tryz.underlying191
 a127:=Tryz.isAgg191
 z127:=Tryz.sizeOf191
 v127:=Tryz.zeroValue191
 t164:=Tryz.underlying227
 a164:=Tryz.isAgg227
 z164:=Tryz.sizeOf227
 v164:=Tryz.zeroValue227 }
theorem Tryz.fJ:Builder.Extra Tryz.prog Tryz.DN:= {
 sizeBuilder:=by kernel_rfl
 liesBuilder:=by kernel_rfl
 t5:=Tryz.underlying5
 a5:=Tryz.isAgg5
 z5:=Tryz.sizeOf5
 v5:=Tryz.zeroValue5
 infoByte:=by kernel_rfl
 cellsByte:=by kernel_rfl
 sizeByte:=by kernel_rfl
 neB5:=by decide }
open Go.RowKit in
theorem Tryz.strings_Join_none (a:Option Addr) (c:Nat) (sep:ByteArray) (w:World) :
  Calls Tryz.prog 60 #[.slice a 0 c,.string sep] w fun e w'=>e= .returned (.string ⟨#[]⟩)/\w'=w:=Any.strings_Join_none Tryz.ue Tryz.fJ a c sep w
open Go.RowKit in
theorem Tryz.strings_Join (bk o c:Nat) (xs:List ByteArray) (sep:ByteArray) (w:World) (hcells:∀ (j:Nat) x,xs[j]?=some x->w.cell? ⟨bk,o+j,none⟩=some (.string x)) (hbk:bk<w.heap.size) (hN:xs.length<=140737488355328) (hcap:xs.length<=c) (hlen:(Lib.join (xs.map (·.data.toList)) sep.data.toList).length<=140737488355328) :
  Calls Tryz.prog 60 #[.slice (some ⟨bk,o,none⟩) xs.length c,.string sep] w fun e w'=>e= .returned (.string ⟨(Lib.join (xs.map (·.data.toList)) sep.data.toList).toArray⟩)/\Below w.heap.size w w':=Any.strings_Join Tryz.ue Tryz.fJ bk o c xs sep w hcells hbk hN hcap hlen
def Tryz.rS:Go.Shelf.Ren:=⟨fun|162=>110|232=>150|227=>151|234=>152|236=>153|228=>198|271=>199|151=>200|120=>241|197=>220|152=>242|260=>257|137=>273|119=>274|224=>165|225=>164|217=>163|266=>206|n=>n,fun|9=>9|4=>4|3=>3|5=>5|117=>187|116=>186|0=>0|124=>190|21=>21|105=>224|46=>142|119=>288|139=>291|138=>290|n=>n,fun|3=>2|4=>3|n=>n⟩
theorem Tryz.xX:Go.Proofs.Lays.n162 Tryz.prog Tryz.rS:= {
 mixed:=by kernel_rfl
 f119:=Tryz.func274.trans (congrArg some (by kernel_rfl))
 f120:=Tryz.func241.trans (congrArg some (by kernel_rfl))
 f137:=Tryz.func273.trans (congrArg some (by kernel_rfl))
 f151:=Tryz.func200.trans (congrArg some (by kernel_rfl))
 f152:=Tryz.func242.trans (congrArg some (by kernel_rfl))
 f162:=Tryz.func110.trans (congrArg some (by kernel_rfl))
 f197:=Tryz.func220.trans (congrArg some (by kernel_rfl))
 f217:=Tryz.func163.trans (congrArg some (by kernel_rfl))
 f224:=Tryz.func165.trans (congrArg some (by kernel_rfl))
 f225:=Tryz.func164.trans (congrArg some (by kernel_rfl))
 f227:=Tryz.func151.trans (congrArg some (by kernel_rfl))
 f228:=Tryz.func198.trans (congrArg some (by kernel_rfl))
 f232:=Tryz.func150.trans (congrArg some (by kernel_rfl))
 f234:=Tryz.func152.trans (congrArg some (by kernel_rfl))
 f236:=Tryz.func153.trans (congrArg some (by kernel_rfl))
 f260:=Tryz.func257.trans (congrArg some (by kernel_rfl))
 f266:=Tryz.func206.trans (congrArg some (by kernel_rfl))
 f271:=Tryz.func199.trans (congrArg some (by kernel_rfl))
 t0:=Tryz.underlying0
 a0:=Tryz.isAgg0
 z0:=Tryz.sizeOf0
 v0:=Tryz.zeroValue0
 t3:=Tryz.underlying3
 a3:=Tryz.isAgg3
 z3:=Tryz.sizeOf3
 v3:=Tryz.zeroValue3
 t4:=Tryz.underlying4
 a4:=Tryz.isAgg4
 z4:=Tryz.sizeOf4
 v4:=Tryz.zeroValue4
 t5:=Tryz.underlying5
 a5:=Tryz.isAgg5
 z5:=Tryz.sizeOf5
 v5:=Tryz.zeroValue5
 t9:=Tryz.underlying9
 a9:=Tryz.isAgg9
 z9:=Tryz.sizeOf9
 v9:=Tryz.zeroValue9
 t21:=Tryz.underlying21
 a21:=Tryz.isAgg21
 z21:=Tryz.sizeOf21
 v21:=Tryz.zeroValue21
 t46:=Tryz.underlying142
 a46:=Tryz.isAgg142
 z46:=Tryz.sizeOf142
 v46:=Tryz.zeroValue142
 t105:=Tryz.underlying224
 a105:=Tryz.isAgg224
 z105:=Tryz.sizeOf224
 v105:=Tryz.zeroValue224
 t116:=Tryz.underlying186
 a116:=Tryz.isAgg186
 z116:=Tryz.sizeOf186
 t117:=Tryz.underlying187
 a117:=Tryz.isAgg187
 z117:=Tryz.sizeOf187
 v117:=Tryz.zeroValue187
 t119:=Tryz.underlying288
 a119:=Tryz.isAgg288
 z119:=Tryz.sizeOf288
 t124:=Tryz.underlying190
 a124:=Tryz.isAgg190
 z124:=Tryz.sizeOf190
 v124:=Tryz.zeroValue190
 t138:=Tryz.underlying290
 a138:=Tryz.isAgg290
 z138:=Tryz.sizeOf290
 v138:=Tryz.zeroValue290
 t139:=Tryz.underlying291
 a139:=Tryz.isAgg291
 z139:=Tryz.sizeOf291
 v139:=Tryz.zeroValue291
 g3:=by kernel_rfl
 g4:=by kernel_rfl }
open Go.RowKit in
theorem Tryz.strings_TrimRight_one (s:ByteArray) (c:UInt8) (hc:c.toNat<128) (w:World) (hs:s.size<=9223372036854775807) :
  Calls Tryz.prog 110 #[.string s,.string ⟨#[c]⟩] w fun e w'=>e= .returned (.string ⟨(Lib.trimRightB s.data.toList c).toArray⟩)/\w'=w:=Any.strings_TrimRight_one Tryz.xX s c hc w hs
def Tryz.rP:Go.Shelf.Ren:=⟨fun|103=>178|210=>222|206=>258|n=>n,fun|9=>9|4=>4|24=>205|3=>3|n=>n,fun|n=>n⟩
theorem Tryz.xU:Go.Proofs.Lays.n103 Tryz.prog Tryz.rP:= {
 mixed:=by kernel_rfl
 f103:=Tryz.func178.trans (congrArg some (by kernel_rfl))
 f206:=Tryz.func258.trans (congrArg some (by kernel_rfl))
 f210:=Tryz.func222.trans (congrArg some (by kernel_rfl))
 t3:=Tryz.underlying3
 a3:=Tryz.isAgg3
 z3:=Tryz.sizeOf3
 v3:=Tryz.zeroValue3
 t4:=Tryz.underlying4
 a4:=Tryz.isAgg4
 z4:=Tryz.sizeOf4
 v4:=Tryz.zeroValue4
 t9:=Tryz.underlying9
 a9:=Tryz.isAgg9
 z9:=Tryz.sizeOf9
 v9:=Tryz.zeroValue9
 t24:=Tryz.underlying205
 a24:=Tryz.isAgg205
 z24:=Tryz.sizeOf205
 v24:=Tryz.zeroValue205 }
open Go.RowKit in
theorem Tryz.strings_CutPrefix (s p:ByteArray) (w:World) :
  Calls Tryz.prog 178 #[.string s,.string p] w fun e w'=>e= .returned (.tuple #[.string ⟨(Lib.trimPrefix s.data.toList p.data.toList).toArray⟩,.bool (Lib.hasPrefix s.data.toList p.data.toList)])/\w'=w:=Any.strings_CutPrefix Tryz.xU s p w
def Tryz.ql:Go.Shelf.Ren:=⟨fun|171=>109|243=>149|246=>197|283=>237|284=>238|285=>239|286=>240|129=>269|317=>268|318=>270|319=>271|320=>272|337=>291|338=>292|n=>n,fun|3=>3|9=>9|2=>2|4=>4|171=>260|0=>0|53=>261|37=>22|5=>5|173=>264|212=>281|51=>235|20=>20|213=>282|46=>142|232=>297|233=>298|n=>n,fun|17=>1|18=>4|19=>5|n=>n⟩
theorem Tryz.wz:Go.Proofs.LaysM.n171 Tryz.prog Tryz.ql:= {
 mixed:=by kernel_rfl
 f129:=Tryz.func269.trans (congrArg some (by kernel_rfl))
 f171:=Tryz.func109.trans (congrArg some (by kernel_rfl))
 f243:=Tryz.func149.trans (congrArg some (by kernel_rfl))
 f246:=Tryz.func197.trans (congrArg some (by kernel_rfl))
 f283:=Tryz.func237.trans (congrArg some (by kernel_rfl))
 f284:=Tryz.func238.trans (congrArg some (by kernel_rfl))
 f285:=Tryz.func239.trans (congrArg some (by kernel_rfl))
 f286:=Tryz.func240.trans (congrArg some (by kernel_rfl))
 f317:=Tryz.func268.trans (congrArg some (by kernel_rfl))
 f318:=Tryz.func270.trans (congrArg some (by kernel_rfl))
 f319:=Tryz.func271.trans (congrArg some (by kernel_rfl))
 f320:=Tryz.func272.trans (congrArg some (by kernel_rfl))
 f337:=Tryz.func291.trans (congrArg some (by kernel_rfl))
 f338:=Tryz.func292.trans (congrArg some (by kernel_rfl))
 t0:=Tryz.underlying0
 a0:=Tryz.isAgg0
 z0:=Tryz.sizeOf0
 v0:=Tryz.zeroValue0
 t2:=Tryz.underlying2
 a2:=Tryz.isAgg2
 z2:=Tryz.sizeOf2
 v2:=Tryz.zeroValue2
 t3:=Tryz.underlying3
 a3:=Tryz.isAgg3
 z3:=Tryz.sizeOf3
 v3:=Tryz.zeroValue3
 t4:=Tryz.underlying4
 a4:=Tryz.isAgg4
 z4:=Tryz.sizeOf4
 v4:=Tryz.zeroValue4
 t5:=Tryz.underlying5
 a5:=Tryz.isAgg5
 z5:=Tryz.sizeOf5
 v5:=Tryz.zeroValue5
 t9:=Tryz.underlying9
 a9:=Tryz.isAgg9
 z9:=Tryz.sizeOf9
 v9:=Tryz.zeroValue9
 t20:=Tryz.underlying20
 a20:=Tryz.isAgg20
 z20:=Tryz.sizeOf20
 v20:=Tryz.zeroValue20
 t37:=Tryz.underlying22
 a37:=Tryz.isAgg22
 z37:=Tryz.sizeOf22
 v37:=Tryz.zeroValue22
 t46:=Tryz.underlying142
 a46:=Tryz.isAgg142
 z46:=Tryz.sizeOf142
 v46:=Tryz.zeroValue142
 t51:=Tryz.underlying235
 a51:=Tryz.isAgg235
 z51:=Tryz.sizeOf235
 v51:=Tryz.zeroValue235
 t53:=Tryz.underlying261
 a53:=Tryz.isAgg261
 z53:=Tryz.sizeOf261
 v53:=Tryz.zeroValue261
 t171:=Tryz.underlying260
 a171:=Tryz.isAgg260
 z171:=Tryz.sizeOf260
 v171:=Tryz.zeroValue260
 t173:=Tryz.underlying264
 a173:=Tryz.isAgg264
 z173:=Tryz.sizeOf264
 v173:=Tryz.zeroValue264
 t212:=Tryz.underlying281
 a212:=Tryz.isAgg281
 z212:=Tryz.sizeOf281
 v212:=Tryz.zeroValue281
 t213:=Tryz.underlying282
 a213:=Tryz.isAgg282
 z213:=Tryz.sizeOf282
 t232:=Tryz.underlying297
 a232:=Tryz.isAgg297
 z232:=Tryz.sizeOf297
 v232:=Tryz.zeroValue297
 t233:=Tryz.underlying298
 a233:=Tryz.isAgg298
 z233:=Tryz.sizeOf298
 v233:=Tryz.zeroValue298
 g17:=by kernel_rfl
 g18:=by kernel_rfl
 g19:=by kernel_rfl
 i0:=by kernel_rfl
 i2:=by kernel_rfl
 i3:=by kernel_rfl
 i4:=by kernel_rfl
 i5:=by kernel_rfl
 i9:=by kernel_rfl
 i20:=by kernel_rfl
 i37:=by kernel_rfl
 i46:=by kernel_rfl
 i51:=by kernel_rfl
 i53:=by kernel_rfl
 i171:=by kernel_rfl
 i173:=by kernel_rfl
 i212:=by kernel_rfl
 i232:=by kernel_rfl
 i233:=by kernel_rfl
 m17:=by kernel_rfl
 m18:=by kernel_rfl
 m19:=by kernel_rfl }
open Go.RowKit Go.Sort Go.Lib in
theorem Tryz.strconv_Itoa (n:Int) (h0: -9223372036854775808<=n) (h1:n<=9223372036854775807) (w:World) (htab:Lib.TabIs Tryz.prog w "internal/strconv.uint64pow10" .u64 Lib.pow10Tab) :
  Calls Tryz.prog 109 #[.int .i64 n] w fun e w'=>e= .returned (.string ⟨(Lib.itoa n).toArray⟩)/\∃ k os,w'=grow (w.drewN k) os:=Any.strconv_Itoa Tryz.wz n h0 h1 w htab
def Tryz.rQ:Go.Shelf.Ren:=⟨fun|145=>34|220=>76|219=>122|217=>163|225=>164|224=>165|267=>166|266=>206|314=>207|n=>n,fun|9=>9|4=>4|59=>60|3=>3|5=>5|46=>142|146=>236|51=>235|n=>n,fun|1=>0|n=>n⟩
theorem Tryz.xV:Go.Proofs.Lays.n145 Tryz.prog Tryz.rQ:= {
 mixed:=by kernel_rfl
 f145:=Tryz.func34.trans (congrArg some (by kernel_rfl))
 f217:=Tryz.func163.trans (congrArg some (by kernel_rfl))
 f219:=Tryz.func122.trans (congrArg some (by kernel_rfl))
 f220:=Tryz.func76.trans (congrArg some (by kernel_rfl))
 f224:=Tryz.func165.trans (congrArg some (by kernel_rfl))
 f225:=Tryz.func164.trans (congrArg some (by kernel_rfl))
 f266:=Tryz.func206.trans (congrArg some (by kernel_rfl))
 f267:=Tryz.func166.trans (congrArg some (by kernel_rfl))
 f314:=Tryz.func207.trans (congrArg some (by kernel_rfl))
 t3:=Tryz.underlying3
 a3:=Tryz.isAgg3
 z3:=Tryz.sizeOf3
 v3:=Tryz.zeroValue3
 t4:=Tryz.underlying4
 a4:=Tryz.isAgg4
 z4:=Tryz.sizeOf4
 v4:=Tryz.zeroValue4
 t5:=Tryz.underlying5
 a5:=Tryz.isAgg5
 z5:=Tryz.sizeOf5
 v5:=Tryz.zeroValue5
 t9:=Tryz.underlying9
 a9:=Tryz.isAgg9
 z9:=Tryz.sizeOf9
 v9:=Tryz.zeroValue9
 t46:=Tryz.underlying142
 a46:=Tryz.isAgg142
 z46:=Tryz.sizeOf142
 v46:=Tryz.zeroValue142
 t51:=Tryz.underlying235
 a51:=Tryz.isAgg235
 z51:=Tryz.sizeOf235
 v51:=Tryz.zeroValue235
 t59:=Tryz.underlying60
 a59:=Tryz.isAgg60
 z59:=Tryz.sizeOf60
 v59:=Tryz.zeroValue60
 t146:=Tryz.underlying236
 a146:=Tryz.isAgg236
 z146:=Tryz.sizeOf236
 v146:=Tryz.zeroValue236
 g1:=by kernel_rfl }
open Go.RowKit Go.Lib in
theorem Tryz.strings_Cut (s sep:ByteArray) (m:Int) (w:World) (hs:s.size<4294967281) (hm:w.cell? ⟨0,0,none⟩=some (.int .i64 m)) :
  Calls Tryz.prog 34 #[.string s,.string sep] w fun e w'=>e= .returned (.tuple #[.string ⟨(Lib.cut s.data.toList sep.data.toList).1.toArray⟩,.string ⟨(Lib.cut s.data.toList sep.data.toList).2.1.toArray⟩,.bool (Lib.cut s.data.toList sep.data.toList).2.2])/\∃ n,w'=w.drewN n:=Any.strings_Cut Tryz.xV s sep m w hs hm
def Tryz.rR:Go.Shelf.Ren:=⟨fun|146=>83|221=>129|268=>175|138=>176|143=>177|195=>219|197=>220|218=>221|219=>122|260=>257|217=>163|225=>164|224=>165|267=>166|266=>206|314=>207|n=>n,fun|9=>9|31=>48|3=>3|4=>4|0=>0|105=>224|21=>21|5=>5|46=>142|119=>288|139=>291|138=>290|146=>236|51=>235|n=>n,fun|1=>0|3=>2|4=>3|n=>n⟩
theorem Tryz.xW:Go.Proofs.Lays.n146 Tryz.prog Tryz.rR:= {
 mixed:=by kernel_rfl
 f138:=Tryz.func176.trans (congrArg some (by kernel_rfl))
 f143:=Tryz.func177.trans (congrArg some (by kernel_rfl))
 f146:=Tryz.func83.trans (congrArg some (by kernel_rfl))
 f195:=Tryz.func219.trans (congrArg some (by kernel_rfl))
 f197:=Tryz.func220.trans (congrArg some (by kernel_rfl))
 f217:=Tryz.func163.trans (congrArg some (by kernel_rfl))
 f218:=Tryz.func221.trans (congrArg some (by kernel_rfl))
 f219:=Tryz.func122.trans (congrArg some (by kernel_rfl))
 f221:=Tryz.func129.trans (congrArg some (by kernel_rfl))
 f224:=Tryz.func165.trans (congrArg some (by kernel_rfl))
 f225:=Tryz.func164.trans (congrArg some (by kernel_rfl))
 f260:=Tryz.func257.trans (congrArg some (by kernel_rfl))
 f266:=Tryz.func206.trans (congrArg some (by kernel_rfl))
 f267:=Tryz.func166.trans (congrArg some (by kernel_rfl))
 f268:=Tryz.func175.trans (congrArg some (by kernel_rfl))
 f314:=Tryz.func207.trans (congrArg some (by kernel_rfl))
 t0:=Tryz.underlying0
 a0:=Tryz.isAgg0
 z0:=Tryz.sizeOf0
 v0:=Tryz.zeroValue0
 t3:=Tryz.underlying3
 a3:=Tryz.isAgg3
 z3:=Tryz.sizeOf3
 v3:=Tryz.zeroValue3
 t4:=Tryz.underlying4
 a4:=Tryz.isAgg4
 z4:=Tryz.sizeOf4
 v4:=Tryz.zeroValue4
 t5:=Tryz.underlying5
 a5:=Tryz.isAgg5
 z5:=Tryz.sizeOf5
 v5:=Tryz.zeroValue5
 t9:=Tryz.underlying9
 a9:=Tryz.isAgg9
 z9:=Tryz.sizeOf9
 v9:=Tryz.zeroValue9
 t21:=Tryz.underlying21
 a21:=Tryz.isAgg21
 z21:=Tryz.sizeOf21
 v21:=Tryz.zeroValue21
 t31:=Tryz.underlying48
 a31:=Tryz.isAgg48
 z31:=Tryz.sizeOf48
 v31:=Tryz.zeroValue48
 t46:=Tryz.underlying142
 a46:=Tryz.isAgg142
 z46:=Tryz.sizeOf142
 v46:=Tryz.zeroValue142
 t51:=Tryz.underlying235
 a51:=Tryz.isAgg235
 z51:=Tryz.sizeOf235
 v51:=Tryz.zeroValue235
 t105:=Tryz.underlying224
 a105:=Tryz.isAgg224
 z105:=Tryz.sizeOf224
 v105:=Tryz.zeroValue224
 t119:=Tryz.underlying288
 a119:=Tryz.isAgg288
 z119:=Tryz.sizeOf288
 t138:=Tryz.underlying290
 a138:=Tryz.isAgg290
 z138:=Tryz.sizeOf290
 v138:=Tryz.zeroValue290
 t139:=Tryz.underlying291
 a139:=Tryz.isAgg291
 z139:=Tryz.sizeOf291
 v139:=Tryz.zeroValue291
 t146:=Tryz.underlying236
 a146:=Tryz.isAgg236
 z146:=Tryz.sizeOf236
 v146:=Tryz.zeroValue236
 g1:=by kernel_rfl
 g3:=by kernel_rfl
 g4:=by kernel_rfl }
open Go.RowKit Go.Lib in
theorem Tryz.strings_Split (s sep:ByteArray) (m:Int) (w:World) (hs:s.size<4294967281) (hm:w.cell? ⟨0,0,none⟩=some (.int .i64 m)) (h1:1<=sep.size) :
  Calls Tryz.prog 83 #[.string s,.string sep] w fun e w' =>
   e= .returned (.slice (some ⟨w.heap.size,0,none⟩) (Lib.countB s sep+1) (Lib.countB s sep+1))/\w'=w.alloc (.cells ((Lib.splitB sep 0 (Lib.countB s sep) s).map Value.string).toArray 9):=Any.strings_Split Tryz.xW (by kernel_rfl) s sep m w hs hm h1
end Go.Proofs
namespace Go.Proofs.YtjciicheoghcdaaGreatDoor
open Go.RowKit
set_option linter.all false
set_option maxRecDepth 20000
set_option maxHeartbeats 16000000
def okN (n:Int):Bool:=decide (0<=n/\n<=1000000)
def jn (l:List Int):List UInt8:=Lib.join (l.map dec) [32]
def nt (l:List Int):List UInt8:=if l.all okN=true then jn l else []
theorem xR {l:List Int} (h:l≠[]) (x:Int):jn (l++[x])=jn l++[32]++dec x:=by
 cases l with
 | nil=>exact absurd rfl h
 | cons a l=>simp[jn,Lib.join_cons,Lib.joinTail]
theorem At (x:Int):jn [x]=dec x:=by simp[jn,Lib.join_one]
theorem wI {l:List Int} {x:Int} (h:x∈l) (hx:okN x=false):nt l=[]:=if_neg (fun e=>by rw[List.all_eq_true] at e;have:=e x h;rw[hx] at this;cases this)
theorem zj {l:List Int} (h:l.all okN=true):nt l=jn l:=if_pos h
theorem wL {x:Int} (h:okN x=true):0<=x/\x<=1000000:=of_decide_eq_true h
theorem jZ {x:Int} (h:okN x=true):(dec x).length<=1000001:=by
 have:=wL h;have:=(e7 x.toNat).2;unfold dec
 omega
theorem tE (l:List Int) (k:Nat) (h:k<l.length):l.take (k+1)=l.take k++[l.getD k 0]:=by
 rw[List.take_succ_eq_append_getElem h,List.getD_eq_getElem?_getD,List.getElem?_eq_getElem h];rfl
def Nk (l:List Int) (k:Nat) (s:ByteArray):Prop:=(l.take k).all okN=true/\s=bs (jn (l.take k))/\s.size<=k*1000002
theorem Nk.start (l:List Int):Nk l 0 ⟨#[]⟩:=⟨rfl,rfl,Nat.le_refl _⟩
theorem Nk.one {l:List Int} {s:ByteArray} (h:Nk l 0 s) (hk:0<l.length) (hx:okN (l.getD 0 0)=true):Nk l 1 (s++bs (dec (l.getD 0 0))):=by
 obtain⟨h1,rfl,h3⟩:=h;have e:l.take 1=[l.getD 0 0]:=by simpa using tE l 0 hk
 have e2:jn (l.take 0)=[]:=rfl;refine⟨by rw[e,List.all_cons,hx];rfl,by rw[e,At,e2,bN];rfl,?_⟩
 rw[e2,bN,aK,List.nil_append];have:=jZ hx
 omega
theorem Nk.next {l:List Int} {k:Nat} {s:ByteArray} (h:Nk l k s) (h0:0<k) (hk:k<l.length) (hx:okN (l.getD k 0)=true):Nk l (k+1) (s++⟨#[32]⟩++bs (dec (l.getD k 0))):=by
 obtain⟨h1,rfl,h3⟩:=h;have e:l.take (k+1)=l.take k++[l.getD k 0]:=tE l k hk;have e2:(⟨#[32]⟩:ByteArray)=bs [32]:=rfl;have hne:l.take k≠[]:=by
  intro h;have:=congrArg List.length h;rw[List.length_take,List.length_nil] at this
  omega
 have e3:bs (jn (l.take k))++⟨#[32]⟩++bs (dec (l.getD k 0))=bs (jn (l.take (k+1))):=by rw[e,xR hne,e2,bN,bN]
 refine⟨by rw[e,List.all_append,h1,List.all_cons,hx];rfl,e3,?_⟩
 rw[e2,bN,bN,aK];rw[aK] at h3;have:=jZ hx;simp only[List.length_append,List.length_cons,List.length_nil]
 omega
theorem Nk.fin {l:List Int} {s:ByteArray} (h:Nk l l.length s):s=bs (nt l):=by
 obtain⟨h1,h2,_⟩:=h;rw[List.take_length] at h1 h2;rw[zj h1]
 exact h2
theorem cK {a b:Nat} (h:a+b<=9223372036854775807):(9223372036854775807<a+b)=False:=by simp only[eq_iff_iff,iff_false];omega
theorem yR (a b c d:Int) (k:Nat) (hk:k<4):(#[Value.int .i64 a,.int .i64 b,.int .i64 c,.int .i64 d]:Array Value)[k]?=some (.int .i64 ([a,b,c,d].getD k 0)):=by
 match k,hk with
 | 0,_=>rfl
 | 1,_=>rfl
 | 2,_=>rfl
 | 3,_=>rfl
theorem BQ (a b c d:Int) (k:Nat) (hk:k<4):[a,b,c,d].getD k 0∈[a,b,c,d]:=by
 match k,hk with
 | 0,_=>simp
 | 1,_=>simp
 | 2,_=>simp
 | 3,_=>simp
theorem lM (x:Int) {b:Bool} (h:okN x=b) (w:World):Calls Tryz.prog 53 #[.int .i64 x,.int .i64 0,.int .i64 1000000] w fun e w'=>e= .returned (.bool b)/\w=w':=by
 subst h
 exact lL x 0 1000000 w
theorem sA (a b c d:Int) (w:World):Calls Tryz.prog 50 #[.agg #[.int .i64 a,.int .i64 b,.int .i64 c,.int .i64 d]] w fun e w'=>e= .returned (.string (bs (nt [a,b,c,d])))/\Below w.heap.size w w':=by
 obtain⟨u1,hu1⟩:∃ u,u=(w.alloc (.cells #[.int .i64 a,.int .i64 b,.int .i64 c,.int .i64 d] 92)).alloc (.cells #[.int .i64 a,.int .i64 b,.int .i64 c,.int .i64 d] 3):=⟨_,rfl⟩;have HB:Hid (Blk u1 (w.heap.size+1) 3 #[.int .i64 a,.int .i64 b,.int .i64 c,.int .i64 d]):=by
  rw[hu1];have h:=Blk.new (w.alloc (.cells #[.int .i64 a,.int .i64 b,.int .i64 c,.int .i64 d] 92)) 3 #[.int .i64 a,.int .i64 b,.int .i64 c,.int .i64 d]
  show Blk _ _ _ _
  simpa using h
 have HO:Hid (Below w.heap.size w u1):=by rw[hu1];exact(Qb.alloc Ql _).alloc (by simp) _
 go_enter Tryz.func50,Tryz.ntmps50
 go_wp2_with fail
 rw[<-hu1];clear hu1
 go_loopw [4,5] (fun o q wr=>∃ (k:Nat) (s:ByteArray),k<=4/\q= .int .i64 k/\o= .string s/\Hid (Nk [a,b,c,d] k s)/\Hid (Blk wr (w.heap.size+1) 3 #[.int .i64 a,.int .i64 b,.int .i64 c,.int .i64 d])/\Hid (Below w.heap.size w wr)) (fun _ q _=>4-(intOf q).toNat)
 case atStart=>exact⟨0,_,by omega,rfl,rfl,Nk.start _,HB,HO⟩
 case round =>
  obtain⟨k,s,hk,rfl,rfl,hn,hb,ho⟩:=hrel
  by_cases hlt:k<4
  ·obtain⟨x,ex⟩:∃ x,x=[a,b,c,d].getD k 0:=⟨_,rfl⟩;have cx:wr.cell? ⟨w.heap.size+1,k,none⟩=some (.int .i64 x):=by rw[hb.out.cell,ex];exact yR a b c d k hlt
   have EX:=Qh ex;have i0:(0:Int)<=(k:Int):=by omega
   have i1:(k:Int)<4:=by omega
   cases hx:okN x
   ·have HF:Hid (nt [a,b,c,d]=[]):=wI (BQ a b c d k hlt) (by rw[<-ex];exact hx)
    clear ex
    go_wp2_with fail
    refine Qc (lM x hx wr) ?_;go_wp2
    go_ret
    exact⟨bT (by rw[HF.out];rfl),ho.out⟩
   ·obtain⟨x0,x1⟩:=wL hx;have hsz:s.size<=4*1000002:=Nat.le_trans hn.out.2.2 (Nat.mul_le_mul_right _ hk);have hdl:=jZ hx;have HX:=Qh hx;clear ex
    by_cases hk0:k=0
    ·subst hk0
     go_wp2_with fail
     refine Qc (lM x HX.out wr) ?_;clear hx
     go_wp2_with fail
     refine(eO x x0 x1 wr).mono ?_;rintro e w1 ⟨rfl,hb1⟩;obtain⟨r,hr⟩:∃ r,r=bs (dec x):=⟨_,rfl⟩;have hr2:r=bs (Lib.decDigits x.toNat):=hr;have hrs:r.size=(dec x).length:=by rw[hr,aK]
     rw[<-hr2];have HR:=Qh hr;clear hr hr2;have ho1:=cK (a:=s.size) (b:=r.size) (by omega)
     clear hrs hdl hsz;go_wp2
     go_roundw
     case rel=>exact⟨1,_,by omega,by go_num,rfl,by rw[HR.out,EX.out];exact hn.out.one (Nat.succ_pos _) (by rw[<-EX.out];exact HX.out),hb.out.aa hb1,bp hb1 ho.out.size ho.out⟩
     case measure=>simp[intOf]
    ·have hk1:(0:Int)<(k:Int):=by omega
     go_wp2_with fail
     refine Qc (lM x HX.out wr) ?_;clear hx;have ho0:=cK (a:=s.size) (b:=1) (by omega)
     have e32:ByteArray.size ⟨#[32]⟩=1:=rfl;obtain⟨t,ht⟩:∃ t,s++(⟨#[32]⟩:ByteArray)=t:=⟨_,rfl⟩;have hts:t.size=s.size+1:=by rw[<-ht];exact ByteArray.size_append
     go_wp2_with fail
     refine(eO x x0 x1 wr).mono ?_;rintro e w1 ⟨rfl,hb1⟩;obtain⟨r,hr⟩:∃ r,r=bs (dec x):=⟨_,rfl⟩;have hr2:r=bs (Lib.decDigits x.toNat):=hr;have hrs:r.size=(dec x).length:=by rw[hr,aK]
     rw[<-hr2];have HR:=Qh hr;have HT:=Qh ht;clear hr hr2;have ho1:=cK (a:=t.size) (b:=r.size) (by omega)
     clear hrs hdl hsz ht hts ho0 e32;go_wp2
     go_roundw
     case rel=>exact⟨k+1,_,by omega,by go_num,rfl,by rw[HR.out,<-HT.out,EX.out];exact hn.out.next (by omega) hlt (by rw[<-EX.out];exact HX.out),hb.out.aa hb1,bp hb1 ho.out.size ho.out⟩
     case measure=>simp[intOf];omega
  ·obtain rfl:k=4:=by omega
   have HF:=Qh hn.out.fin;clear hn;go_wp2
   go_ret
   exact⟨bT HF.out,ho.out⟩
section
attribute [local go_sem ↓] Go.wp_at_zero Go.wp_at_succ
def Dm0 (w:World) (rb P:Nat) (r c:Int) (e:Ending) (w':World):Prop:=∃ (A:Option Addr) (cp:Nat) (v:List Int),e= .returned (.agg #[.int .i64 r,.int .i64 c,.slice A v.length cp])/\OS w' w.heap.size A v.length cp v/\v.length<=26/\Rd w' rb P/\aZ rb w w'
theorem Mi.Fu {rb P P':Nat} {r c:Int} {w W:World} {j cp:Nat} {A:Option Addr} {xs:List Int} {a b d:Value} (h:Mi rb r c w P W j A cp xs) (hr:rb<w.heap.size) (hj:j<=26) (hP:P<=P') :
  Dm0 w rb P' r c (.returned (.agg #[.int .i64 r,.int .i64 c,.slice A j cp])) (((W.setCell ⟨w.heap.size,0,none⟩ a).setCell ⟨w.heap.size,1,none⟩ b).setCell ⟨w.heap.size,2,none⟩ d):=by
 obtain⟨h1,h2,h3,h4,h5⟩:=h;have hl:=h3.len;subst hl
 exact⟨A,cp,xs,rfl,((h3.dk h1 (by decide) _).dk (h1.dc 0 _) (by decide) _).dk ((h1.dc 0 _).dc 1 _) (by decide) _,hj,(((h5.setCell (by dsimp only;omega) _).setCell (by dsimp only;omega) _).setCell (by dsimp only;omega) _).mono (by omega),
  ((h4.setCell (.inr Ql) _).setCell (.inr Ql) _).setCell (.inr Ql) _⟩
theorem FF (rb P:Nat) (r c:Int) (hr:1<=r/\r<=5) (hc:1<=c/\c<=5) (w:World) (h:Rd w rb P) (hP:P<1000000):Calls Tryz.prog 121 #[.pointer (some ⟨rb,0,none⟩),.int .i64 r,.int .i64 c,.int .i64 0] w (Dm0 w rb (P+220) r c):=by
 obtain⟨i0',hi,hz0,hz1,hz2⟩:=info_parts eU;have hrw:=h.lt;have N0:r*c<=5*5:=Int.mul_le_mul hr.2 hc.2 (by omega) (by omega)
 have N1:0<r*c:=Int.mul_pos (by omega) (by omega)
 obtain⟨N,hN⟩:∃ N:Nat,r*c=(N:Int):=⟨(r*c).toNat,by omega⟩
 have hN1:1<=N:=by omega
 have hN2:N<=25:=by omega
 have hNl:N+1<=26:=by omega
 clear N0 N1;have hwN:IntKind.i64.wrap (r*c)=(N:Int):=by rw[hN];exact IntWalk.i64_in _ (by omega)
 have hNn:(0:Int)<(N:Int):=by omega
 have hM0:=Qh (Mi.start (r:=r) (c:=c) h);have HN:=Qh hN;obtain⟨c1,c2⟩:=hc;clear h hr hN
 go_enter Tryz.func121,Tryz.ntmps121
 go_wp2
 go_loopw [10] (fun v10 wr=>∃ (j:Nat) (A:Option Addr) (cp:Nat) (xs:List Int),j<=N/\v10= .int .i64 (j:Int)/\Hid (Mi rb r c w (P+8*j) wr j A cp xs)) (fun k _=>((N:Int)-intOf k).toNat)
 case atStart=>exact⟨0,none,0,[],by omega,by go_num,hM0⟩
 case round =>
  obtain⟨j,A,cp,xs,hj,rfl,hm⟩:=hrel;clear hM0
  by_cases hk:j<N
  ·have hk':(j:Int)<(N:Int):=by omega
   have MD:=Qh hm.out.drew;have hP2:P+8*j<1000200:=by omega
   have C1:Hid (∀ W:World,Rd W rb (P+8*j)->Calls Tryz.prog 71 #[.pointer (some ⟨rb,0,none⟩),.int .i64 64] W (Pk W rb (P+8*j+1) 64)):=fun W h=>FE rb _ 64 W h (by omega)
   have C2:Hid (∀ (x:Int) (W:World),Calls Tryz.prog 132 #[.int .i64 x] W fun e w'=>∃ y:Int,e= .returned (.int .i64 y)/\W=w'):=fun x W=>(bG x W).mono fun e w' h=>⟨_,h.1,h.2⟩
   have C3:Hid (∀ W:World,Rd W rb (P+8*j+1)->Calls Tryz.prog 162 #[.pointer (some ⟨rb,0,none⟩),.int .i64 0] W (Rg0 W rb (P+8*j+1+6))):=fun W h=>DV rb _ W h (by omega)
   have C4:Hid (∀ W:World,Rd W rb (P+8*j+1+6)->Calls Tryz.prog 71 #[.pointer (some ⟨rb,0,none⟩),.int .i64 4] W (Pk W rb (P+8*j+1+6+1) 4)):=fun W h=>FE rb _ 4 W h (by omega)
   have H2:Hid (j+1<=maxLen):=by unfold maxLen;show j+1<=_;omega
   have H3:Hid ((j+1)*8<=140737488355328):=by show (j+1)*8<=_;omega
   have cM:wr.cell? ⟨w.heap.size+1,2,none⟩=some (.slice A j cp):=hm.out.kx;have zM:=hm.out.lt
   go_upto_region 5 with fail
   go_region_law (first
    | (refine step_append_lies _ (by rfl) _ _ _ (by rfl) w.heap.size 3 i0' (.int .i64 0) 1 8 Tryz.underlying35 hi hz0 hz1 hz2 rfl (by omega) (.slice A j cp) j _ (by rfl) (World.ownsRow.alloc MC.out.os _) ⟨wc.heap.size,0,none⟩ 1 1 [.int .i64 v] (by rfl) rfl (fun jj u h=>HN1.out jj u h) H1.out (by omega) H2.out H3.out H4.out (wc.heap.size+1) H5.out ?_;intro g cap w1 hown hgrow hat hlt1;have HA:=Qh (Mi.app MC.out hrw hown hgrow hat);clear hown hgrow hat;have kT:=HA.out.2.1.cell 2;have fT:=HA.out.2.1.frozen 2;have zT:=HA.out.2.1.lt)
    | (refine step_append_lies _ (by rfl) _ _ _ (by rfl) w.heap.size 3 i0' (.int .i64 0) 1 8 Tryz.underlying35 hi hz0 hz1 hz2 rfl (by omega) (.slice A j cp) j _ (by rfl) (World.ownsRow.alloc (MC.out.alloc (.cells #[.int .i64 xx,.int .i64 yy] 3)).os _) ⟨wc.heap.size+1,0,none⟩ 1 1 [.int .i64 v] (by rfl) rfl (fun jj u h=>HN1.out jj u h) H1.out (by omega) H2.out H3.out H4.out (wc.heap.size+1+1) H5.out ?_;intro g cap w1 hown hgrow hat hlt1;have HA:=Qh (Mi.app (MC.out.alloc (.cells #[.int .i64 xx,.int .i64 yy] 3)) hrw hown hgrow (hat.imp id fun e=>e.trans (by rw[World.size_alloc])));clear hown hgrow hat;have kT:=HA.out.2.1.cell 2;have fT:=HA.out.2.1.frozen 2;have zT:=HA.out.2.1.lt)
    | (go_simp;go_at_call 71;(with_reducible refine(C1.out _ MD.out.rd).mono ?_);rintro e wa ⟨a,rfl,a0,a1,r',o'⟩;have a2:a<=63:=(by omega);have MA:=Qh (MD.out.only hrw o' r');have cA:=MA.out.kx;have fA:=MA.out.DC;have zA:=MA.out.lt;clear a1 r' o')
    | (go_simp;go_at_call 132;refine(C2.out _ _).mono ?_;rintro e w' ⟨xx,rfl,rfl⟩)
    | (go_simp;go_at_call 162;(with_reducible refine(C3.out _ MA.out.rd).mono ?_);rintro e wb ⟨yy,rfl,y0,y1,r',o'⟩;have MB:=Qh (MA.out.only hrw o' r');have cB:=MB.out.kx;have fB:=MB.out.DC;have zB:=MB.out.lt;clear y0 y1 r' o')
    | (go_simp;go_at_call 71;(with_reducible refine(C4.out _ (MB.out.alloc _).rd).mono ?_);rintro e wc ⟨q,rfl,q0,q1,r',o'⟩;have q2:q<6:=(by omega);clear q1;obtain⟨d,hd,d0,d1⟩:=DQ (q:=q) (n:=3) (by omega) q0 q2;have hwd:=IntWalk.i64_in d (by omega);obtain⟨v,hv,hvv⟩:=D_ xx yy d d0 d1;have MC:=Qh ((MB.out.alloc (.cells #[.int .i64 xx,.int .i64 yy] 3)).only hrw o' r');have cC:=MC.out.kx;have fC:=MC.out.DC;have zC:=MC.out.lt;have zb:wb.heap.size<wc.heap.size:=(by have:=o'.size;simp at this;omega);have cX:wc.cell? ⟨wb.heap.size,d.toNat,none⟩=some (.int .i64 v):=(o'.cell (by simp) (by omega)).trans (FK wb hv);have HN1:=Qh (cell_one_new wc (.int .i64 v) 3);have H1:Hid (∀ u∈[Value.int .i64 v],u.oneCell'=true):=(by intro u hu;simp at hu;subst hu;rfl);have H4:Hid (w.heap.size<=(wc.alloc (.cells #[.int .i64 v] 3)).heap.size):=(by show w.heap.size<=_;simp;omega);have H5:Hid ((wc.alloc (.cells #[.int .i64 v] 3)).heap.size=wc.heap.size+1):=(by show _=_;simp);have cL:(wc.alloc (.cells #[.int .i64 v] 3)).cell? ⟨w.heap.size+1,2,none⟩=some (.slice A j cp):=(MC.out.alloc (.cells #[.int .i64 v] 3)).kx;clear hvv r' o' hv)
    | (go_simp;go_at_call 71;(with_reducible refine(C4.out _ MB.out.rd).mono ?_);rintro e wc ⟨q,rfl,q0,q1,r',o'⟩;have q2:q<6:=(by omega);clear q1;obtain⟨d,hd,d0,d1⟩:=DQ (q:=q) (n:=3) (by omega) q0 q2;have hwd:=IntWalk.i64_in d (by omega);obtain⟨v,hv,hvv⟩:=D_ xx yy d d0 d1;have MC:=Qh (MB.out.only hrw o' r');have cC:=MC.out.kx;have fC:=MC.out.DC;have zC:=MC.out.lt;have cX:(wc.alloc (.cells #[.int .i64 xx,.int .i64 yy] 3)).cell? ⟨wc.heap.size,d.toNat,none⟩=some (.int .i64 v):=FK wc hv;have hv2:=hv;obtain⟨_,hve⟩:=List.getElem?_eq_some_iff.1 hv2;have HN1:Hid (∀ jj u,[Value.int .i64 v][jj]?=some u->((wc.alloc (.cells #[.int .i64 xx,.int .i64 yy] 3)).alloc (.cells #[.int .i64 v] 3)).cell? ((⟨wc.heap.size+1,0,none⟩:Addr).add jj)=some u):=(by have h:=cell_one_new (wc.alloc (.cells #[.int .i64 xx,.int .i64 yy] 3)) (.int .i64 v) 3;rw[World.size_alloc] at h;exact h);have H1:Hid (∀ u∈[Value.int .i64 v],u.oneCell'=true):=(by intro u hu;simp at hu;subst hu;rfl);have H4:Hid (w.heap.size<=((wc.alloc (.cells #[.int .i64 xx,.int .i64 yy] 3)).alloc (.cells #[.int .i64 v] 3)).heap.size):=(by show w.heap.size<=_;simp;omega);have H5:Hid (((wc.alloc (.cells #[.int .i64 xx,.int .i64 yy] 3)).alloc (.cells #[.int .i64 v] 3)).heap.size=(wc.heap.size+1)+1):=(by show _=_;simp);have cL0:(wc.alloc (.cells #[.int .i64 xx,.int .i64 yy] 3)).cell? ⟨w.heap.size+1,2,none⟩=some (.slice A j cp):=(MC.out.alloc (.cells #[.int .i64 xx,.int .i64 yy] 3)).kx;have cL:((wc.alloc (.cells #[.int .i64 xx,.int .i64 yy] 3)).alloc (.cells #[.int .i64 v] 3)).cell? ⟨w.heap.size+1,2,none⟩=some (.slice A j cp):=((MC.out.alloc (.cells #[.int .i64 xx,.int .i64 yy] 3)).alloc (.cells #[.int .i64 v] 3)).kx;clear hvv r' o'))
   all_goals
    go_wp2
    go_roundw
    case rel=>exact⟨j+1,some ⟨g,0,none⟩,cap,xs++[v],by omega,by go_num,Qh ((Ma.next HA.out hrw).mono (by omega))⟩
    case measure=>simp[intOf];omega
  ·obtain rfl:j=N:=by omega
   go_wp2_with fail
   refine Qc (DH rb wr) ?_;have za1:w.heap.size<wr.heap.size:=by have:=hm.out.lt;omega
   have za2:w.heap.size+1<wr.heap.size:=hm.out.lt;have ca00:wr.cell? ⟨w.heap.size,0,none⟩=some (.int .i64 0):=hm.out.1.cell 0;have fa00:wr.frozen? ⟨w.heap.size,0,none⟩=false:=hm.out.1.frozen 0;have ca01:wr.cell? ⟨w.heap.size,1,none⟩=some (.int .i64 0):=hm.out.1.cell 1;have fa01:wr.frozen? ⟨w.heap.size,1,none⟩=false:=hm.out.1.frozen 1;have ca02:wr.cell? ⟨w.heap.size,2,none⟩=some (.slice none 0 0):=hm.out.1.cell 2;have fa02:wr.frozen? ⟨w.heap.size,2,none⟩=false:=hm.out.1.frozen 2;have ca10:wr.cell? ⟨w.heap.size+1,0,none⟩=some (.int .i64 r):=hm.out.2.1.cell 0;have fa10:wr.frozen? ⟨w.heap.size+1,0,none⟩=false:=hm.out.2.1.frozen 0;have ca11:wr.cell? ⟨w.heap.size+1,1,none⟩=some (.int .i64 c):=hm.out.2.1.cell 1;have fa11:wr.frozen? ⟨w.heap.size+1,1,none⟩=false:=hm.out.2.1.frozen 1;have ca12:wr.cell? ⟨w.heap.size+1,2,none⟩=some (.slice A j cp):=hm.out.2.1.cell 2;have fa12:wr.frozen? ⟨w.heap.size+1,2,none⟩=false:=hm.out.2.1.frozen 2;go_wp2
   exact bodyPost_ret (v:= .agg #[.int .i64 r,.int .i64 c,.slice A j cp]) (by simp[results,Tryz.results121,go_sem,za1,za2,ca00,fa00,ca01,fa01,ca02,fa02,ca10,fa10,ca11,fa11,ca12,fa12,(by omega:¬w.heap.size=w.heap.size+1),(by omega:¬w.heap.size+1=w.heap.size)]) rfl (Mi.Fu hm.out hrw (by omega) (by omega))
end
def bD (m:Mx) (w:World) (e:Ending) (w':World):Prop:=∃ (A:Option Addr) (c:Nat),e= .returned (MV m.r m.c A m.v.length c)/\OS w' w.heap.size A m.v.length c m.v/\Below w.heap.size w w'
def bS (a b:Mx):Bool:=decide (a.r=b.r) && decide (a.c=b.c)
theorem eY (r1 c1 r2 c2:Int) (A1 A2:Option Addr) (n1 p1 n2 p2:Nat) (w:World) (v1 v2:List Int):Calls Tryz.prog 195 #[MV r1 c1 A1 n1 p1,MV r2 c2 A2 n2 p2] w fun e w'=>e= .returned (.bool (bS ⟨r1,c1,v1⟩ ⟨r2,c2,v2⟩))/\Below w.heap.size w w':=by
 by_cases h1:r1=r2
 ·have e1:(r1 == r2)=true:=by simp[h1]
  have es:bS ⟨r1,c1,v1⟩ ⟨r2,c2,v2⟩=(c1 == c2):=by simp[bS,h1,BEq.beq]
  rw[es];clear h1 es
  go_enter Tryz.func195,Tryz.ntmps195
  go_wp2
  go_ret
  exact⟨rfl,(((Below.refl w.heap.size w).alloc (by first|omega|(simp;done)|(simp;omega)) _).alloc (by first|omega|(simp;done)|(simp;omega)) _)⟩
 ·have e1:(r1 == r2)=false:=by simp[h1]
  have es:bS ⟨r1,c1,v1⟩ ⟨r2,c2,v2⟩=false:=by simp[bS,h1]
  rw[es];clear h1 es
  go_enter Tryz.func195,Tryz.ntmps195
  go_wp2
  go_ret
  exact⟨rfl,(((Below.refl w.heap.size w).alloc (by first|omega|(simp;done)|(simp;omega)) _).alloc (by first|omega|(simp;done)|(simp;omega)) _)⟩
theorem di {r c:Int} {n:Nat} (hn:r*c=(n:Int)) (bn:n<=1048576) (w:World) :
  Calls Tryz.prog 196 #[.int .i64 r,.int .i64 c] w (bD ⟨r,c,List.replicate n 0⟩ w):=by
 have q1:=IntWalk.i64_in (r*c) (by omega)
 have hmk:∀ W:World,(Instr.makeSlice 35 (.int .i64 (r*c)) (.int .i64 (r*c))).run Tryz.prog W= .ok (.slice (some ⟨W.heap.size,0,none⟩) n n) (W.alloc (ZB n)):=by rw[hn];exact fun W=>jc n (by omega) W
 clear hn;have F3:=OS.sN (w.alloc (.cells #[.int .i64 r,.int .i64 c,.slice (some ⟨w.heap.size+1,0,none⟩) n n] 37)) n (by omega)
 simp only[World.size_alloc] at F3;have FB:Below w.heap.size w ((w.alloc (.cells #[.int .i64 r,.int .i64 c,.slice (some ⟨w.heap.size+1,0,none⟩) n n] 37)).alloc (ZB n)):=(Qb.alloc Ql _).alloc (by simp) _
 have HF:=Qh F3;have HB:=Qh FB;clear F3 FB
 go_enter Tryz.func196,Tryz.ntmps196
 go_wp2;refine bodyPost_ret (v:=MV r c (some ⟨w.heap.size+1,0,none⟩) n n) (by simp[results,Tryz.results196,go_sem]) rfl ?_
 refine⟨some ⟨w.heap.size+1,0,none⟩,n,by rw[List.length_replicate],?_,HB.out⟩
 rw[List.length_replicate]
 exact HF.out.mono (by omega)
theorem aQ (r c:Int) (v:List Int) (A:Option Addr) (n cap:Nat) (w:World) (hx0:SI w A n v) (bn:n<=1048576) :
  Calls Tryz.prog 92 #[MV r c A n cap] w (bD ⟨r,c,v⟩ w):=by
 obtain⟨i0',hi,hz0,hz1,hz2⟩:=info_parts eU;have HLN:=Qh hx0.1
 by_cases h0:n=0
 ·subst h0;have e0:v=[]:=List.eq_nil_of_length_eq_zero HLN.out;subst e0;clear hx0
  cases A
  all_goals
   go_enter Tryz.func92,Tryz.ntmps92
   go_wp2;refine bodyPost_ret (v:=MV r c (some ⟨w.heap.size+3,0,none⟩) 0 0) (by simp[results,Tryz.results92,go_sem]) rfl ?_
   exact⟨_,0,rfl,yf _ (by omega) (by simp),(by repeat (first|assumption|exact Below.refl _ _|apply Below.drew|(refine Below.setCell ?_ (by(first|omega|(simp <;> omega))) _)|(refine Below.alloc ?_ (by(first|omega|(simp <;> omega))) _)|(refine bp (by assumption) (by(first|omega|(simp <;> omega))) ?_)))⟩
 ·obtain⟨b,off,rfl,hb,hc0⟩:=hx0.2 (by omega)
  have hc:=Qh hc0;clear hc0 hx0
  go_enter Tryz.func92,Tryz.ntmps92
  obtain⟨u1,hu1⟩:∃ u,u=((((w.alloc (.cells #[.int .i64 r,.int .i64 c,.slice (some ⟨b,off,none⟩) n cap] 37)).alloc (.cells #[.int .i64 0,.int .i64 0,.slice none 0 0] 37)).alloc (.cells #[.int .i64 r,.int .i64 c,.slice (some ⟨b,off,none⟩) n cap] 37)).alloc (.cells #[] 3)):=⟨_,rfl⟩;have hzu1:u1.heap.size<=w.heap.size+4:=by rw[hu1];simp
  have hyu1:w.heap.size+4<=u1.heap.size:=by rw[hu1];simp
  have B1_1:Blk u1 (w.heap.size) 37 #[.int .i64 r,.int .i64 c,.slice (some ⟨b,off,none⟩) n cap]:=by rw[hu1];have h:=((((Blk.new w 37 #[.int .i64 r,.int .i64 c,.slice (some ⟨b,off,none⟩) n cap]).alloc (.cells #[.int .i64 0,.int .i64 0,.slice none 0 0] 37)).alloc (.cells #[.int .i64 r,.int .i64 c,.slice (some ⟨b,off,none⟩) n cap] 37)).alloc (.cells #[] 3));simpa using h
  have xb1:w.heap.size<=w.heap.size:=by omega
  have B1_2:Blk u1 (w.heap.size+1) 37 #[.int .i64 0,.int .i64 0,.slice none 0 0]:=by rw[hu1];have h:=(((Blk.new (w.alloc (.cells #[.int .i64 r,.int .i64 c,.slice (some ⟨b,off,none⟩) n cap] 37)) 37 #[.int .i64 0,.int .i64 0,.slice none 0 0]).alloc (.cells #[.int .i64 r,.int .i64 c,.slice (some ⟨b,off,none⟩) n cap] 37)).alloc (.cells #[] 3));simpa using h
  have xb2:w.heap.size<=w.heap.size+1:=by omega
  have B1_3:Blk u1 (w.heap.size+2) 37 #[.int .i64 r,.int .i64 c,.slice (some ⟨b,off,none⟩) n cap]:=by rw[hu1];have h:=((Blk.new ((w.alloc (.cells #[.int .i64 r,.int .i64 c,.slice (some ⟨b,off,none⟩) n cap] 37)).alloc (.cells #[.int .i64 0,.int .i64 0,.slice none 0 0] 37)) 37 #[.int .i64 r,.int .i64 c,.slice (some ⟨b,off,none⟩) n cap]).alloc (.cells #[] 3));simpa using h
  have xb3:w.heap.size<=w.heap.size+2:=by omega
  have O1:Below w.heap.size w u1:=by rw[hu1];exact(((((Below.refl w.heap.size w).alloc (by first|omega|(simp;done)|(simp;omega)) _).alloc (by first|omega|(simp;done)|(simp;omega)) _).alloc (by first|omega|(simp;done)|(simp;omega)) _).alloc (by first|omega|(simp;done)|(simp;omega)) _)
  have m1:w.heap.size<=u1.heap.size:=by omega
  have HF1:Hid (OS u1 w.heap.size (some ⟨w.heap.size+3,0,none⟩) 0 0 []):=by rw[hu1];have h:=mT (((w.alloc (.cells #[.int .i64 r,.int .i64 c,.slice (some ⟨b,off,none⟩) n cap] 37)).alloc (.cells #[.int .i64 0,.int .i64 0,.slice none 0 0] 37)).alloc (.cells #[.int .i64 r,.int .i64 c,.slice (some ⟨b,off,none⟩) n cap] 37)) (base:=w.heap.size) (by simp only[World.size_alloc];omega);simp only[World.size_alloc] at h;exact h
  have F1_o:OS u1 w.heap.size (some ⟨w.heap.size+3,0,none⟩) 0 0 []:=HF1.out;have z1_1:w.heap.size<u1.heap.size:=B1_1.lt;have c1_1_0:u1.cell? ⟨w.heap.size,0,none⟩=some (.int .i64 r):=B1_1.cell 0;have f1_1_0:u1.frozen? ⟨w.heap.size,0,none⟩=false:=B1_1.frozen 0;have c1_1_1:u1.cell? ⟨w.heap.size,1,none⟩=some (.int .i64 c):=B1_1.cell 1;have f1_1_1:u1.frozen? ⟨w.heap.size,1,none⟩=false:=B1_1.frozen 1;have c1_1_2:u1.cell? ⟨w.heap.size,2,none⟩=some (.slice (some ⟨b,off,none⟩) n cap):=B1_1.cell 2;have f1_1_2:u1.frozen? ⟨w.heap.size,2,none⟩=false:=B1_1.frozen 2;have z1_2:w.heap.size+1<u1.heap.size:=B1_2.lt;have c1_2_0:u1.cell? ⟨w.heap.size+1,0,none⟩=some (.int .i64 0):=B1_2.cell 0;have f1_2_0:u1.frozen? ⟨w.heap.size+1,0,none⟩=false:=B1_2.frozen 0;have c1_2_1:u1.cell? ⟨w.heap.size+1,1,none⟩=some (.int .i64 0):=B1_2.cell 1;have f1_2_1:u1.frozen? ⟨w.heap.size+1,1,none⟩=false:=B1_2.frozen 1;have c1_2_2:u1.cell? ⟨w.heap.size+1,2,none⟩=some (.slice none 0 0):=B1_2.cell 2;have f1_2_2:u1.frozen? ⟨w.heap.size+1,2,none⟩=false:=B1_2.frozen 2;have z1_3:w.heap.size+2<u1.heap.size:=B1_3.lt;have c1_3_0:u1.cell? ⟨w.heap.size+2,0,none⟩=some (.int .i64 r):=B1_3.cell 0;have f1_3_0:u1.frozen? ⟨w.heap.size+2,0,none⟩=false:=B1_3.frozen 0;have c1_3_1:u1.cell? ⟨w.heap.size+2,1,none⟩=some (.int .i64 c):=B1_3.cell 1;have f1_3_1:u1.frozen? ⟨w.heap.size+2,1,none⟩=false:=B1_3.frozen 1;have c1_3_2:u1.cell? ⟨w.heap.size+2,2,none⟩=some (.slice (some ⟨b,off,none⟩) n cap):=B1_3.cell 2;have f1_3_2:u1.frozen? ⟨w.heap.size+2,2,none⟩=false:=B1_3.frozen 2;have HC:∀ k,k<n->u1.cell? ⟨b,off+k,none⟩=some (.int .i64 (v.getD k 0)):=fun k hk=>(O1.cell (p:=⟨b,off+k,none⟩) hb).trans (hc.out k hk)
  go_wp2_with (at_builtin;rw[<-hu1];refine wpList_append_lies _ rfl _ _ 35 rfl w.heap.size 3 i0' (.int .i64 0) 1 8 Tryz.underlying35 hi hz0 hz1 hz2 rfl (by decide) (.slice (some ⟨w.heap.size+3,0,none⟩) (0) 0) (0) _ rfl F1_o ⟨b,off,none⟩ n cap ((v).map (Value.int .i64)) rfl (by simp[HLN.out]) ?c1 ?c2 ?c3 ?c4 ?c5 ?c6 u1.heap.size ?c7 ?_)
  case c1=>exact ux HLN.out HC
  case c2=>simp[Value.oneCell']
  case c3=>omega
  case c4=>unfold maxLen;omega
  case c5=>omega
  case c6=>first|omega|(simp;omega)
  case c7=>simp
  intro g2 p2 w2 hown hgrow hat _;rw[<-hu1] at hgrow;clear hu1;obtain⟨hos,hon⟩:=yg (ys:=v) F1_o hgrow (Below.refl u1.heap.size u1) (by simpa using hown)
  clear hown hgrow;clear hat;have B2_1:=Blk.bR B1_1 hon (bf F1_o B1_1 (by decide))
  have B2_2:=Blk.bR B1_2 hon (bf F1_o B1_2 (by decide))
  have B2_3:=Blk.bR B1_3 hon (bf F1_o B1_3 (by decide))
  have O2:=O1.trans (bJ.toBelow hon (B:=w.heap.size) (fun g hg=>(F1_o.aj g hg).1) (by omega))
  have m2:w.heap.size<=w2.heap.size:=O2.size;rw[List.nil_append,Nat.zero_add] at hos;have F2_o:=hos;clear B1_1 B1_2 B1_3 F1_o O1 z1_1 c1_1_0 f1_1_0 c1_1_1 f1_1_1 c1_1_2 f1_1_2 z1_2 c1_2_0 f1_2_0 c1_2_1 f1_2_1 c1_2_2 f1_2_2 z1_3 c1_3_0 f1_3_0 c1_3_1 f1_3_1 c1_3_2 f1_3_2 hos hon;have z2_1:w.heap.size<w2.heap.size:=B2_1.lt;have c2_1_0:w2.cell? ⟨w.heap.size,0,none⟩=some (.int .i64 r):=B2_1.cell 0;have f2_1_0:w2.frozen? ⟨w.heap.size,0,none⟩=false:=B2_1.frozen 0;have c2_1_1:w2.cell? ⟨w.heap.size,1,none⟩=some (.int .i64 c):=B2_1.cell 1;have f2_1_1:w2.frozen? ⟨w.heap.size,1,none⟩=false:=B2_1.frozen 1;have c2_1_2:w2.cell? ⟨w.heap.size,2,none⟩=some (.slice (some ⟨b,off,none⟩) n cap):=B2_1.cell 2;have f2_1_2:w2.frozen? ⟨w.heap.size,2,none⟩=false:=B2_1.frozen 2;have z2_2:w.heap.size+1<w2.heap.size:=B2_2.lt;have c2_2_0:w2.cell? ⟨w.heap.size+1,0,none⟩=some (.int .i64 0):=B2_2.cell 0;have f2_2_0:w2.frozen? ⟨w.heap.size+1,0,none⟩=false:=B2_2.frozen 0;have c2_2_1:w2.cell? ⟨w.heap.size+1,1,none⟩=some (.int .i64 0):=B2_2.cell 1;have f2_2_1:w2.frozen? ⟨w.heap.size+1,1,none⟩=false:=B2_2.frozen 1;have c2_2_2:w2.cell? ⟨w.heap.size+1,2,none⟩=some (.slice none 0 0):=B2_2.cell 2;have f2_2_2:w2.frozen? ⟨w.heap.size+1,2,none⟩=false:=B2_2.frozen 2;have z2_3:w.heap.size+2<w2.heap.size:=B2_3.lt;have c2_3_0:w2.cell? ⟨w.heap.size+2,0,none⟩=some (.int .i64 r):=B2_3.cell 0;have f2_3_0:w2.frozen? ⟨w.heap.size+2,0,none⟩=false:=B2_3.frozen 0;have c2_3_1:w2.cell? ⟨w.heap.size+2,1,none⟩=some (.int .i64 c):=B2_3.cell 1;have f2_3_1:w2.frozen? ⟨w.heap.size+2,1,none⟩=false:=B2_3.frozen 1;have c2_3_2:w2.cell? ⟨w.heap.size+2,2,none⟩=some (.slice (some ⟨b,off,none⟩) n cap):=B2_3.cell 2;have f2_3_2:w2.frozen? ⟨w.heap.size+2,2,none⟩=false:=B2_3.frozen 2;go_wp2
  exact bodyPost_ret (v:=MV r c (some ⟨g2,0,none⟩) n p2) (by simp[results,Tryz.results92,go_sem,z2_1,c2_1_0,f2_1_0,c2_1_1,f2_1_1,c2_1_2,f2_1_2,z2_2,c2_2_0,f2_2_0,c2_2_1,f2_2_1,c2_2_2,f2_2_2,z2_3,c2_3_0,f2_3_0,c2_3_1,f2_3_1,c2_3_2,f2_3_2,(by omega:¬w.heap.size=w.heap.size+1),(by omega:¬w.heap.size+1=w.heap.size),(by omega:¬w.heap.size=w.heap.size+2),(by omega:¬w.heap.size+2=w.heap.size),(by omega:¬w.heap.size+1=w.heap.size+2),(by omega:¬w.heap.size+2=w.heap.size+1)]) rfl ⟨_,_,by rw[HLN.out],by rw[HLN.out];exact((((F2_o.dk B2_3 (by decide) _).dk (B2_2.far (p:=⟨w.heap.size+2,2,none⟩) (by dsimp only;omega) (.slice (some ⟨g2,0,none⟩) n p2)) (by decide) _).dk ((B2_2.far (p:=⟨w.heap.size+2,2,none⟩) (by dsimp only;omega) (.slice (some ⟨g2,0,none⟩) n p2)).dc 0 (.int .i64 r)) (by decide) _).dk (((B2_2.far (p:=⟨w.heap.size+2,2,none⟩) (by dsimp only;omega) (.slice (some ⟨g2,0,none⟩) n p2)).dc 0 (.int .i64 r)).dc 1 (.int .i64 c)) (by decide) _),((((O2.setCell (by dsimp only;omega) _).setCell (by dsimp only;omega) _).setCell (by dsimp only;omega) _).setCell (by dsimp only;omega) _)⟩
structure Wd (S:World->Prop) where
 w:World
 h:S w
theorem aS {P:Program} {id:Nat} {Q:Exit->Act->World->Prop} {a:Act} {w:World} {l:List Oper} (S:World->Prop) (hm:P.follows .mixedOrders=true) (hB:Region.lexB .any l.toArray=true) (hC:S w.drew)
  (h:Nonempty (Wd S)->wpQuiet P l.toArray (fun w'=>∃ x:Wd S,w'=x.w) (fun a'=>∀ w',(∃ x:Wd S,w'=x.w)->Q .normal a' w') l a):(Code.region id l.toArray true).wp P Q a w :=
 wp_region_quiet (C:=fun w'=>∃ x:Wd S,w'=x.w) hm hB ⟨⟨w.drew,hC⟩,rfl⟩ (by simpa using h ⟨⟨w.drew,hC⟩⟩)
theorem d_ {P:Program} {B:Nat} {U:World} {f:FuncId} {args:Array Value} {v:Value} (x:Wd (fun w'=>Below B U w')) (hB:B<=U.heap.size) (h:Calls P f args x.w fun e w'=>e= .returned v/\Below x.w.heap.size x.w w') :
  Calls P f args x.w fun e w''=>e= .returned v/\∃ y:Wd (fun w'=>Below B U w'),w''=y.w :=
 h.mono fun _ w' ⟨he,hb⟩=>⟨he,⟨w',x.h.trans (hb.mono (Nat.le_trans hB x.h.size))⟩,rfl⟩
end Go.Proofs.YtjciicheoghcdaaGreatDoor

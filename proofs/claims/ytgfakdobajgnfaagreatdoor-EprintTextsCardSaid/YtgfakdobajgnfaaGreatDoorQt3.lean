import Derived.Shelf.Small.Strs
import Derived.Shelf.Strings.BuilderK
import Derived.Shelf.Strings.Builder2Cap
import Derived.Shelf.Strconv.Itoa3
import Derived.Shelf.Strconv.ParseIntPublic10
import Derived.Shelf.Strings.Cut
import Derived.Shelf.GgClosure.StringsIndexFuncTop
import Derived.Shelf.Strings.Prefix
import Derived.Shelf.Strings.Replace
import Derived.Shelf.Unicode.DecodeLast
import Derived.Test.YtgfakdobajgnfaaGreatDoorQt0
set_option maxRecDepth 100000
set_option maxHeartbeats 16000000
namespace Go.Proofs
open Go.Shelf
def Tryz.lays169_ren:Go.Shelf.Ren:=⟨fun|169=>130|n=>n,fun|70=>179|9=>9|0=>0|72=>181|37=>40|127=>218|3=>3|5=>5|n=>n,fun|n=>n⟩
theorem Tryz.lays169:Go.Proofs.Lays.n169 Tryz.prog Tryz.lays169_ren:={
 mixed:=by kernel_rfl
 f169:=Tryz.func130.trans (Ar some qN)
 t0:=Tryz.underlying0
 a0:=Tryz.isAgg0
 z0:=Tryz.sizeOf0
 v0:=Tryz.zeroValue0
 t3:=Tryz.underlying3
 a3:=Tryz.isAgg3
 z3:=Tryz.sizeOf3
 v3:=Tryz.zeroValue3
 t9:=Tryz.underlying9
 a9:=Tryz.isAgg9
 z9:=Tryz.sizeOf9
 v9:=Tryz.zeroValue9
 t37:=Tryz.underlying40
 a37:=Tryz.isAgg40
 z37:=Tryz.sizeOf40
 v37:=Tryz.zeroValue40
 t70:=Tryz.underlying179
 a70:=Tryz.isAgg179
 z70:=Tryz.sizeOf179
 v70:=Tryz.zeroValue179
 t72:=Tryz.underlying181
 a72:=Tryz.isAgg181
 z72:=Tryz.sizeOf181
 v72:=Tryz.zeroValue181
 t127:=Tryz.underlying218
 a127:=Tryz.isAgg218
 z127:=Tryz.sizeOf218
 v127:=Tryz.zeroValue218}
theorem Tryz.Builder_Extra_169:Builder.Extra Tryz.prog Tryz.lays169_ren:={
 sizeBuilder:=by kernel_rfl
 liesBuilder:=by kernel_rfl
 t5:=Tryz.underlying5
 a5:=Tryz.isAgg5
 z5:=Tryz.sizeOf5
 v5:=Tryz.zeroValue5
 infoByte:=by kernel_rfl
 cellsByte:=by kernel_rfl
 sizeByte:=by kernel_rfl
 neB5:=by decide}
open Go.RowKit in
theorem Tryz.Builder_String_any (B b:Nat)(l:List UInt8)(w:World)(h:Lib.IsBuilder 181 5 B b (Lib.byteCells l) w)(hBw:B<=w.heap.size):
 Calls Tryz.prog 130 #[.pointer (some ⟨b,0,none⟩)] w fun e w'=>e= .returned (.string ⟨l.toArray⟩)/\Below B w w':=Any.Builder_String_any Tryz.lays169 Tryz.Builder_Extra_169 B b l w h hBw
def Tryz.lays156_ren:Go.Shelf.Ren:=⟨fun|156=>169|165=>187|166=>188|169=>130|240=>193|241=>228|276=>232|277=>241|n=>n,fun|31=>39|9=>9|3=>3|4=>4|0=>0|20=>20|72=>181|76=>214|70=>179|37=>40|75=>119|127=>218|164=>254|5=>5|80=>183|n=>n,fun|n=>n⟩
theorem Tryz.lays156:Go.Proofs.Lays.n156 Tryz.prog Tryz.lays156_ren:={
 mixed:=by kernel_rfl
 f156:=Tryz.func169.trans (Ar some qN)
 f165:=Tryz.func187.trans (Ar some qN)
 f166:=Tryz.func188.trans (Ar some qN)
 f169:=Tryz.func130.trans (Ar some qN)
 f240:=Tryz.func193.trans (Ar some qN)
 f241:=Tryz.func228.trans (Ar some qN)
 f276:=Tryz.func232.trans (Ar some qN)
 f277:=Tryz.func241.trans (Ar some qN)
 t0:=Tryz.underlying0
 a0:=Tryz.isAgg0
 z0:=Tryz.sizeOf0
 v0:=Tryz.zeroValue0
 t3:=Tryz.underlying3
 a3:=Tryz.isAgg3
 z3:=Tryz.sizeOf3
 v3:=Tryz.zeroValue3
 t4:=Tryz.underlying4
 a4:=Tryz.isAgg4
 z4:=Tryz.sizeOf4
 v4:=Tryz.zeroValue4
 t9:=Tryz.underlying9
 a9:=Tryz.isAgg9
 z9:=Tryz.sizeOf9
 v9:=Tryz.zeroValue9
 t20:=Tryz.underlying20
 a20:=Tryz.isAgg20
 z20:=Tryz.sizeOf20
 v20:=Tryz.zeroValue20
 t31:=Tryz.underlying39
 a31:=Tryz.isAgg39
 z31:=Tryz.sizeOf39
 v31:=Tryz.zeroValue39
 t37:=Tryz.underlying40
 a37:=Tryz.isAgg40
 z37:=Tryz.sizeOf40
 v37:=Tryz.zeroValue40
 t70:=Tryz.underlying179
 a70:=Tryz.isAgg179
 z70:=Tryz.sizeOf179
 v70:=Tryz.zeroValue179
 t72:=Tryz.underlying181
 a72:=Tryz.isAgg181
 z72:=Tryz.sizeOf181
 v72:=Tryz.zeroValue181
 t75:=Tryz.underlying119
 a75:=Tryz.isAgg119
 z75:=Tryz.sizeOf119
 v75:=Tryz.zeroValue119
 t76:=Tryz.underlying214
 a76:=Tryz.isAgg214
 z76:=Tryz.sizeOf214
 v76:=Tryz.zeroValue214
 t127:=Tryz.underlying218
 a127:=Tryz.isAgg218
 z127:=Tryz.sizeOf218
 v127:=Tryz.zeroValue218
 t164:=Tryz.underlying254
 a164:=Tryz.isAgg254
 z164:=Tryz.sizeOf254
 v164:=Tryz.zeroValue254}
theorem Tryz.Builder_Extra_156:Builder.Extra Tryz.prog Tryz.lays156_ren:={
 sizeBuilder:=by kernel_rfl
 liesBuilder:=by kernel_rfl
 t5:=Tryz.underlying5
 a5:=Tryz.isAgg5
 z5:=Tryz.sizeOf5
 v5:=Tryz.zeroValue5
 infoByte:=by kernel_rfl
 cellsByte:=by kernel_rfl
 sizeByte:=by kernel_rfl
 neB5:=by decide}
open Go.RowKit in
theorem Tryz.strings_Join_none (a:Option Addr)(c:Nat)(sep:ByteArray)(w:World):
 Calls Tryz.prog 169 #[.slice a 0 c,.string sep] w fun e w'=>e= .returned (.string ⟨#[]⟩)/\w'=w:=Any.strings_Join_none Tryz.lays156 Tryz.Builder_Extra_156 a c sep w
open Go.RowKit in
theorem Tryz.strings_Join (bk o c:Nat)(xs:List ByteArray)(sep:ByteArray)(w:World)(hcells:∀(j:Nat) x,xs[j]? =some x->w.cell? ⟨bk,o+j,none⟩=some (.string x))(hbk:bk<w.heap.size)(hN:xs.length<=140737488355328)(hcap:xs.length<=c)(hlen:(Lib.join (xs.map (·.data.toList)) sep.data.toList).length<=140737488355328):
 Calls Tryz.prog 169 #[.slice (some ⟨bk,o,none⟩) xs.length c,.string sep] w fun e w'=>e= .returned (.string ⟨(Lib.join (xs.map (·.data.toList)) sep.data.toList).toArray⟩)/\Below w.heap.size w w':=Any.strings_Join Tryz.lays156 Tryz.Builder_Extra_156 bk o c xs sep w hcells hbk hN hcap hlen
def Tryz.lays162_ren:Go.Shelf.Ren:=⟨fun|162=>74|232=>120|227=>121|234=>122|236=>123|228=>183|271=>184|151=>185|120=>224|197=>189|152=>225|260=>229|137=>200|119=>240|224=>173|225=>172|217=>171|266=>218|n=>n,fun|9=>9|4=>4|3=>3|5=>5|117=>171|116=>170|0=>0|124=>174|21=>21|105=>210|46=>200|119=>267|139=>270|138=>269|n=>n,fun|3=>6|4=>7|n=>n⟩
theorem Tryz.lays162:Go.Proofs.Lays.n162 Tryz.prog Tryz.lays162_ren:={
 mixed:=by kernel_rfl
 f119:=Tryz.func240.trans (Ar some qN)
 f120:=Tryz.func224.trans (Ar some qN)
 f137:=Tryz.func200.trans (Ar some qN)
 f151:=Tryz.func185.trans (Ar some qN)
 f152:=Tryz.func225.trans (Ar some qN)
 f162:=Tryz.func74.trans (Ar some qN)
 f197:=Tryz.func189.trans (Ar some qN)
 f217:=Tryz.func171.trans (Ar some qN)
 f224:=Tryz.func173.trans (Ar some qN)
 f225:=Tryz.func172.trans (Ar some qN)
 f227:=Tryz.func121.trans (Ar some qN)
 f228:=Tryz.func183.trans (Ar some qN)
 f232:=Tryz.func120.trans (Ar some qN)
 f234:=Tryz.func122.trans (Ar some qN)
 f236:=Tryz.func123.trans (Ar some qN)
 f260:=Tryz.func229.trans (Ar some qN)
 f266:=Tryz.func218.trans (Ar some qN)
 f271:=Tryz.func184.trans (Ar some qN)
 t0:=Tryz.underlying0
 a0:=Tryz.isAgg0
 z0:=Tryz.sizeOf0
 v0:=Tryz.zeroValue0
 t3:=Tryz.underlying3
 a3:=Tryz.isAgg3
 z3:=Tryz.sizeOf3
 v3:=Tryz.zeroValue3
 t4:=Tryz.underlying4
 a4:=Tryz.isAgg4
 z4:=Tryz.sizeOf4
 v4:=Tryz.zeroValue4
 t5:=Tryz.underlying5
 a5:=Tryz.isAgg5
 z5:=Tryz.sizeOf5
 v5:=Tryz.zeroValue5
 t9:=Tryz.underlying9
 a9:=Tryz.isAgg9
 z9:=Tryz.sizeOf9
 v9:=Tryz.zeroValue9
 t21:=Tryz.underlying21
 a21:=Tryz.isAgg21
 z21:=Tryz.sizeOf21
 v21:=Tryz.zeroValue21
 t46:=Tryz.underlying200
 a46:=Tryz.isAgg200
 z46:=Tryz.sizeOf200
 v46:=Tryz.zeroValue200
 t105:=Tryz.underlying210
 a105:=Tryz.isAgg210
 z105:=Tryz.sizeOf210
 v105:=Tryz.zeroValue210
 t116:=Tryz.underlying170
 a116:=Tryz.isAgg170
 z116:=Tryz.sizeOf170
 t117:=Tryz.underlying171
 a117:=Tryz.isAgg171
 z117:=Tryz.sizeOf171
 v117:=Tryz.zeroValue171
 t119:=Tryz.underlying267
 a119:=Tryz.isAgg267
 z119:=Tryz.sizeOf267
 t124:=Tryz.underlying174
 a124:=Tryz.isAgg174
 z124:=Tryz.sizeOf174
 v124:=Tryz.zeroValue174
 t138:=Tryz.underlying269
 a138:=Tryz.isAgg269
 z138:=Tryz.sizeOf269
 v138:=Tryz.zeroValue269
 t139:=Tryz.underlying270
 a139:=Tryz.isAgg270
 z139:=Tryz.sizeOf270
 v139:=Tryz.zeroValue270
 g3:=by kernel_rfl
 g4:=by kernel_rfl}
open Go.RowKit in
theorem Tryz.strings_TrimRight_one (s:ByteArray)(c:UInt8)(hc:c.toNat<128)(w:World)(hs:s.size<=9223372036854775807):
 Calls Tryz.prog 74 #[.string s,.string ⟨#[c]⟩] w fun e w'=>e= .returned (.string ⟨(Lib.trimRightB s.data.toList c).toArray⟩)/\w'=w:=Any.strings_TrimRight_one Tryz.lays162 s c hc w hs
def Tryz.lays137_ren:Go.Shelf.Ren:=⟨fun|137=>200|217=>171|266=>218|n=>n,fun|9=>9|5=>5|3=>3|n=>n,fun|n=>n⟩
theorem Tryz.lays137:Go.Proofs.Lays.n137 Tryz.prog Tryz.lays137_ren:={
 mixed:=by kernel_rfl
 f137:=Tryz.func200.trans (Ar some qN)
 f217:=Tryz.func171.trans (Ar some qN)
 f266:=Tryz.func218.trans (Ar some qN)
 t3:=Tryz.underlying3
 a3:=Tryz.isAgg3
 z3:=Tryz.sizeOf3
 v3:=Tryz.zeroValue3
 t5:=Tryz.underlying5
 a5:=Tryz.isAgg5
 z5:=Tryz.sizeOf5
 v5:=Tryz.zeroValue5
 t9:=Tryz.underlying9
 a9:=Tryz.isAgg9
 z9:=Tryz.sizeOf9
 v9:=Tryz.zeroValue9}
open Go.RowKit in
theorem Tryz.strings_IndexByte (s:ByteArray)(c:Int)(w:World):
 Calls Tryz.prog 200 #[.string s,.int .u8 c] w fun e w'=>e= .returned (.int .i64 (Lib.indexByte s.data.toList c.toNat.toUInt8))/\w'=w:=Any.strings_IndexByte Tryz.lays137 s c w
def Tryz.lays121_ren:Go.Shelf.Ren:=⟨fun|121=>46|214=>76|n=>n,fun|4=>4|9=>9|n=>n,fun|n=>n⟩
theorem Tryz.lays121:Go.Proofs.Lays.n121 Tryz.prog Tryz.lays121_ren:={
 mixed:=by kernel_rfl
 f121:=Tryz.func46.trans (Ar some qN)
 f214:=Tryz.func76.trans (Ar some qN)
 t4:=Tryz.underlying4
 a4:=Tryz.isAgg4
 z4:=Tryz.sizeOf4
 v4:=Tryz.zeroValue4
 t9:=Tryz.underlying9
 a9:=Tryz.isAgg9
 z9:=Tryz.sizeOf9
 v9:=Tryz.zeroValue9}
open Go.RowKit in
theorem Tryz.strconv_FormatBool (b:Bool)(w:World):
 Calls Tryz.prog 46 #[.bool b] w fun e w'=>e= .returned (.string ⟨(Lib.formatBool b).toArray⟩)/\w'=w:=Any.strconv_FormatBool Tryz.lays121 b w
def Tryz.laysM173_ren:Go.Shelf.Ren:=⟨fun|173=>43|246=>73|283=>116|284=>117|285=>118|286=>119|129=>179|317=>178|318=>180|319=>181|320=>182|337=>222|338=>223|n=>n,fun|2=>2|3=>3|9=>9|4=>4|171=>163|0=>0|53=>55|37=>40|5=>5|173=>166|212=>205|51=>206|20=>20|213=>207|46=>200|232=>264|233=>265|n=>n,fun|17=>1|18=>4|19=>5|n=>n⟩
theorem Tryz.laysM173:Go.Proofs.LaysM.n173 Tryz.prog Tryz.laysM173_ren:={
 mixed:=by kernel_rfl
 f129:=Tryz.func179.trans (Ar some qN)
 f173:=Tryz.func43.trans (Ar some qN)
 f246:=Tryz.func73.trans (Ar some qN)
 f283:=Tryz.func116.trans (Ar some qN)
 f284:=Tryz.func117.trans (Ar some qN)
 f285:=Tryz.func118.trans (Ar some qN)
 f286:=Tryz.func119.trans (Ar some qN)
 f317:=Tryz.func178.trans (Ar some qN)
 f318:=Tryz.func180.trans (Ar some qN)
 f319:=Tryz.func181.trans (Ar some qN)
 f320:=Tryz.func182.trans (Ar some qN)
 f337:=Tryz.func222.trans (Ar some qN)
 f338:=Tryz.func223.trans (Ar some qN)
 t0:=Tryz.underlying0
 a0:=Tryz.isAgg0
 z0:=Tryz.sizeOf0
 v0:=Tryz.zeroValue0
 t2:=Tryz.underlying2
 a2:=Tryz.isAgg2
 z2:=Tryz.sizeOf2
 v2:=Tryz.zeroValue2
 t3:=Tryz.underlying3
 a3:=Tryz.isAgg3
 z3:=Tryz.sizeOf3
 v3:=Tryz.zeroValue3
 t4:=Tryz.underlying4
 a4:=Tryz.isAgg4
 z4:=Tryz.sizeOf4
 v4:=Tryz.zeroValue4
 t5:=Tryz.underlying5
 a5:=Tryz.isAgg5
 z5:=Tryz.sizeOf5
 v5:=Tryz.zeroValue5
 t9:=Tryz.underlying9
 a9:=Tryz.isAgg9
 z9:=Tryz.sizeOf9
 v9:=Tryz.zeroValue9
 t20:=Tryz.underlying20
 a20:=Tryz.isAgg20
 z20:=Tryz.sizeOf20
 v20:=Tryz.zeroValue20
 t37:=Tryz.underlying40
 a37:=Tryz.isAgg40
 z37:=Tryz.sizeOf40
 v37:=Tryz.zeroValue40
 t46:=Tryz.underlying200
 a46:=Tryz.isAgg200
 z46:=Tryz.sizeOf200
 v46:=Tryz.zeroValue200
 t51:=Tryz.underlying206
 a51:=Tryz.isAgg206
 z51:=Tryz.sizeOf206
 v51:=Tryz.zeroValue206
 t53:=Tryz.underlying55
 a53:=Tryz.isAgg55
 z53:=Tryz.sizeOf55
 v53:=Tryz.zeroValue55
 t171:=Tryz.underlying163
 a171:=Tryz.isAgg163
 z171:=Tryz.sizeOf163
 v171:=Tryz.zeroValue163
 t173:=Tryz.underlying166
 a173:=Tryz.isAgg166
 z173:=Tryz.sizeOf166
 v173:=Tryz.zeroValue166
 t212:=Tryz.underlying205
 a212:=Tryz.isAgg205
 z212:=Tryz.sizeOf205
 v212:=Tryz.zeroValue205
 t213:=Tryz.underlying207
 a213:=Tryz.isAgg207
 z213:=Tryz.sizeOf207
 t232:=Tryz.underlying264
 a232:=Tryz.isAgg264
 z232:=Tryz.sizeOf264
 v232:=Tryz.zeroValue264
 t233:=Tryz.underlying265
 a233:=Tryz.isAgg265
 z233:=Tryz.sizeOf265
 v233:=Tryz.zeroValue265
 g17:=by kernel_rfl
 g18:=by kernel_rfl
 g19:=by kernel_rfl
 i0:=by kernel_rfl
 i2:=by kernel_rfl
 i3:=by kernel_rfl
 i4:=by kernel_rfl
 i5:=by kernel_rfl
 i9:=by kernel_rfl
 i20:=by kernel_rfl
 i37:=by kernel_rfl
 i46:=by kernel_rfl
 i51:=by kernel_rfl
 i53:=by kernel_rfl
 i171:=by kernel_rfl
 i173:=by kernel_rfl
 i212:=by kernel_rfl
 i232:=by kernel_rfl
 i233:=by kernel_rfl
 m17:=by kernel_rfl
 m18:=by kernel_rfl
 m19:=by kernel_rfl}
open Go.RowKit Go.Sort Go.Lib in
theorem Tryz.strconv_FormatInt_10 (n:Int)(h0: -9223372036854775808<=n)(h1:n<=9223372036854775807)(w:World)(htab:Lib.TabIs Tryz.prog w "internal/strconv.uint64pow10" .u64 Lib.pow10Tab):
 Calls Tryz.prog 43 #[.int .i64 n,.int .i64 10] w fun e w'=>e= .returned (.string ⟨(Lib.itoa n).toArray⟩)/\∃k os,w'=grow (w.drewN k) os:=Any.strconv_FormatInt_10 Tryz.laysM173 n h0 h1 w htab
def Tryz.laysC174_ren:Go.Shelf.Ren:=⟨fun|174=>85|247=>136|245=>137|287=>194|279=>195|280=>196|281=>197|282=>198|321=>233|322=>234|316=>235|171=>237|205=>236|243=>242|246=>73|283=>116|284=>117|285=>118|286=>119|129=>179|317=>178|318=>180|319=>181|320=>182|337=>222|338=>223|n=>n,fun|9=>9|3=>3|2=>2|75=>119|85=>120|4=>4|167=>219|5=>5|53=>55|175=>220|46=>200|168=>222|37=>40|0=>0|210=>258|21=>21|127=>218|145=>273|143=>271|171=>163|173=>166|212=>205|51=>206|20=>20|213=>207|232=>264|233=>265|80=>183|n=>n,fun|15=>2|16=>3|17=>1|18=>4|19=>5|n=>n⟩
theorem Tryz.laysC174:Go.Proofs.LaysC.n174 Tryz.prog Tryz.laysC174_ren:={
 mixed:=by kernel_rfl
 f129:=Tryz.func179.trans (Ar some qN)
 f171:=Tryz.func237.trans (Ar some qN)
 f174:=Tryz.func85.trans (Ar some qN)
 f205:=Tryz.func236.trans (Ar some qN)
 f243:=Tryz.func242.trans (Ar some qN)
 f245:=Tryz.func137.trans (Ar some qN)
 f246:=Tryz.func73.trans (Ar some qN)
 f247:=Tryz.func136.trans (Ar some qN)
 f279:=Tryz.func195.trans (Ar some qN)
 f280:=Tryz.func196.trans (Ar some qN)
 f281:=Tryz.func197.trans (Ar some qN)
 f282:=Tryz.func198.trans (Ar some qN)
 f283:=Tryz.func116.trans (Ar some qN)
 f284:=Tryz.func117.trans (Ar some qN)
 f285:=Tryz.func118.trans (Ar some qN)
 f286:=Tryz.func119.trans (Ar some qN)
 f287:=Tryz.func194.trans (Ar some qN)
 f316:=Tryz.func235.trans (Ar some qN)
 f317:=Tryz.func178.trans (Ar some qN)
 f318:=Tryz.func180.trans (Ar some qN)
 f319:=Tryz.func181.trans (Ar some qN)
 f320:=Tryz.func182.trans (Ar some qN)
 f321:=Tryz.func233.trans (Ar some qN)
 f322:=Tryz.func234.trans (Ar some qN)
 f337:=Tryz.func222.trans (Ar some qN)
 f338:=Tryz.func223.trans (Ar some qN)
 t0:=Tryz.underlying0
 a0:=Tryz.isAgg0
 z0:=Tryz.sizeOf0
 v0:=Tryz.zeroValue0
 t2:=Tryz.underlying2
 a2:=Tryz.isAgg2
 z2:=Tryz.sizeOf2
 v2:=Tryz.zeroValue2
 t3:=Tryz.underlying3
 a3:=Tryz.isAgg3
 z3:=Tryz.sizeOf3
 v3:=Tryz.zeroValue3
 t4:=Tryz.underlying4
 a4:=Tryz.isAgg4
 z4:=Tryz.sizeOf4
 v4:=Tryz.zeroValue4
 t5:=Tryz.underlying5
 a5:=Tryz.isAgg5
 z5:=Tryz.sizeOf5
 v5:=Tryz.zeroValue5
 t9:=Tryz.underlying9
 a9:=Tryz.isAgg9
 z9:=Tryz.sizeOf9
 v9:=Tryz.zeroValue9
 t20:=Tryz.underlying20
 a20:=Tryz.isAgg20
 z20:=Tryz.sizeOf20
 v20:=Tryz.zeroValue20
 t21:=Tryz.underlying21
 a21:=Tryz.isAgg21
 z21:=Tryz.sizeOf21
 v21:=Tryz.zeroValue21
 t37:=Tryz.underlying40
 a37:=Tryz.isAgg40
 z37:=Tryz.sizeOf40
 v37:=Tryz.zeroValue40
 t46:=Tryz.underlying200
 a46:=Tryz.isAgg200
 z46:=Tryz.sizeOf200
 v46:=Tryz.zeroValue200
 t51:=Tryz.underlying206
 a51:=Tryz.isAgg206
 z51:=Tryz.sizeOf206
 v51:=Tryz.zeroValue206
 t53:=Tryz.underlying55
 a53:=Tryz.isAgg55
 z53:=Tryz.sizeOf55
 v53:=Tryz.zeroValue55
 t75:=Tryz.underlying119
 a75:=Tryz.isAgg119
 z75:=Tryz.sizeOf119
 v75:=Tryz.zeroValue119
 t85:=Tryz.underlying120
 a85:=Tryz.isAgg120
 z85:=Tryz.sizeOf120
 v85:=Tryz.zeroValue120
 t127:=Tryz.underlying218
 a127:=Tryz.isAgg218
 z127:=Tryz.sizeOf218
 v127:=Tryz.zeroValue218
 t143:=Tryz.underlying271
 a143:=Tryz.isAgg271
 z143:=Tryz.sizeOf271
 v143:=Tryz.zeroValue271
 t145:=Tryz.underlying273
 a145:=Tryz.isAgg273
 z145:=Tryz.sizeOf273
 v145:=Tryz.zeroValue273
 t167:=Tryz.underlying219
 a167:=Tryz.isAgg219
 z167:=Tryz.sizeOf219
 v167:=Tryz.zeroValue219
 t168:=Tryz.underlying222
 a168:=Tryz.isAgg222
 z168:=Tryz.sizeOf222
 v168:=Tryz.zeroValue222
 t171:=Tryz.underlying163
 a171:=Tryz.isAgg163
 z171:=Tryz.sizeOf163
 v171:=Tryz.zeroValue163
 t173:=Tryz.underlying166
 a173:=Tryz.isAgg166
 z173:=Tryz.sizeOf166
 v173:=Tryz.zeroValue166
 t175:=Tryz.underlying220
 a175:=Tryz.isAgg220
 z175:=Tryz.sizeOf220
 v175:=Tryz.zeroValue220
 t210:=Tryz.underlying258
 a210:=Tryz.isAgg258
 z210:=Tryz.sizeOf258
 v210:=Tryz.zeroValue258
 t212:=Tryz.underlying205
 a212:=Tryz.isAgg205
 z212:=Tryz.sizeOf205
 v212:=Tryz.zeroValue205
 t213:=Tryz.underlying207
 a213:=Tryz.isAgg207
 z213:=Tryz.sizeOf207
 t232:=Tryz.underlying264
 a232:=Tryz.isAgg264
 z232:=Tryz.sizeOf264
 v232:=Tryz.zeroValue264
 t233:=Tryz.underlying265
 a233:=Tryz.isAgg265
 z233:=Tryz.sizeOf265
 v233:=Tryz.zeroValue265
 g15:=by kernel_rfl
 g16:=by kernel_rfl
 g17:=by kernel_rfl
 g18:=by kernel_rfl
 g19:=by kernel_rfl
 t80:=Tryz.underlying183
 a80:=Tryz.isAgg183
 z80:=Tryz.sizeOf183
 v80:=Tryz.zeroValue183
 i0:=by kernel_rfl
 i2:=by kernel_rfl
 i3:=by kernel_rfl
 i4:=by kernel_rfl
 i5:=by kernel_rfl
 i9:=by kernel_rfl
 i20:=by kernel_rfl
 i21:=by kernel_rfl
 i37:=by kernel_rfl
 i46:=by kernel_rfl
 i51:=by kernel_rfl
 i53:=by kernel_rfl
 i75:=by kernel_rfl
 i80:=by kernel_rfl
 i85:=by kernel_rfl
 i127:=by kernel_rfl
 i143:=by kernel_rfl
 i145:=by kernel_rfl
 i167:=by kernel_rfl
 i168:=by kernel_rfl
 i171:=by kernel_rfl
 i173:=by kernel_rfl
 i175:=by kernel_rfl
 i210:=by kernel_rfl
 i212:=by kernel_rfl
 i232:=by kernel_rfl
 i233:=by kernel_rfl
 m15:=by kernel_rfl
 m16:=by kernel_rfl
 m17:=by kernel_rfl
 m18:=by kernel_rfl
 m19:=by kernel_rfl
 c0:=by kernel_rfl
 c2:=by kernel_rfl
 c3:=by kernel_rfl
 c4:=by kernel_rfl
 c5:=by kernel_rfl
 c9:=by kernel_rfl
 c20:=by kernel_rfl
 c21:=by kernel_rfl
 c37:=by kernel_rfl
 c46:=by kernel_rfl
 c51:=by kernel_rfl
 c53:=by kernel_rfl
 c75:=by kernel_rfl
 c80:=by kernel_rfl
 c85:=by kernel_rfl
 c127:=by kernel_rfl
 c143:=by kernel_rfl
 c145:=by kernel_rfl
 c167:=by kernel_rfl
 c168:=by kernel_rfl
 c171:=by kernel_rfl
 c173:=by kernel_rfl
 c175:=by kernel_rfl
 c210:=by kernel_rfl
 c212:=by kernel_rfl
 c213:=by kernel_rfl
 c232:=by kernel_rfl
 c233:=by kernel_rfl}
open Go.RowKit in
theorem Tryz.strconv_ParseInt_10_at64_ok (s:ByteArray)(hmax:s.size<=9223372036854775806)(v:Int)(h:Lib.parseIntB 64 s.data.toList= .ok v)(w:World):
 Calls Tryz.prog 85 #[.string s,.int .i64 10,.int .i64 64] w fun e w'=>e= .returned (.tuple #[.int .i64 v,.nilIface])/\(w'=w\/∃t,w'=Lib.bytesWorld w 5 t):=Any.strconv_ParseInt_10_at64_ok Tryz.laysC174 s hmax v h w
open Go.RowKit in
theorem Tryz.strconv_ParseInt_10_at64_range (s:ByteArray)(hlim:s.size<=281474976710656)(h:Lib.parseIntB 64 s.data.toList= .range)(ev:Value)(w:World)(hv:w.cell? ⟨3,0,none⟩=some ev)(hev:ev= .nilIface\/∃te pe,ev= .iface te pe):
 Calls Tryz.prog 85 #[.string s,.int .i64 10,.int .i64 64] w fun e w'=>∃N,e= .returned (.tuple #[.int .i64 (Lib.intSat 64 s.data.toList),.iface 222 (.pointer (some ⟨N,0,none⟩))])/\w.heap.size<=N/\w'.heap[N]? =some (.cells #[.string ⟨#[80,97,114,115,101,73,110,116]⟩,.string s,ev] 258 (0,0))/\Below w.heap.size w w':=Any.strconv_ParseInt_10_at64_range Tryz.laysC174 s hlim h ev w hv hev
def Tryz.lays145_ren:Go.Shelf.Ren:=⟨fun|145=>81|220=>132|219=>98|217=>171|225=>172|224=>173|267=>174|266=>218|314=>219|n=>n,fun|9=>9|4=>4|59=>116|3=>3|5=>5|46=>200|146=>246|51=>206|n=>n,fun|1=>0|n=>n⟩
theorem Tryz.lays145:Go.Proofs.Lays.n145 Tryz.prog Tryz.lays145_ren:={
 mixed:=by kernel_rfl
 f145:=Tryz.func81.trans (Ar some qN)
 f217:=Tryz.func171.trans (Ar some qN)
 f219:=Tryz.func98.trans (Ar some qN)
 f220:=Tryz.func132.trans (Ar some qN)
 f224:=Tryz.func173.trans (Ar some qN)
 f225:=Tryz.func172.trans (Ar some qN)
 f266:=Tryz.func218.trans (Ar some qN)
 f267:=Tryz.func174.trans (Ar some qN)
 f314:=Tryz.func219.trans (Ar some qN)
 t3:=Tryz.underlying3
 a3:=Tryz.isAgg3
 z3:=Tryz.sizeOf3
 v3:=Tryz.zeroValue3
 t4:=Tryz.underlying4
 a4:=Tryz.isAgg4
 z4:=Tryz.sizeOf4
 v4:=Tryz.zeroValue4
 t5:=Tryz.underlying5
 a5:=Tryz.isAgg5
 z5:=Tryz.sizeOf5
 v5:=Tryz.zeroValue5
 t9:=Tryz.underlying9
 a9:=Tryz.isAgg9
 z9:=Tryz.sizeOf9
 v9:=Tryz.zeroValue9
 t46:=Tryz.underlying200
 a46:=Tryz.isAgg200
 z46:=Tryz.sizeOf200
 v46:=Tryz.zeroValue200
 t51:=Tryz.underlying206
 a51:=Tryz.isAgg206
 z51:=Tryz.sizeOf206
 v51:=Tryz.zeroValue206
 t59:=Tryz.underlying116
 a59:=Tryz.isAgg116
 z59:=Tryz.sizeOf116
 v59:=Tryz.zeroValue116
 t146:=Tryz.underlying246
 a146:=Tryz.isAgg246
 z146:=Tryz.sizeOf246
 v146:=Tryz.zeroValue246
 g1:=by kernel_rfl}
open Go.RowKit Go.Lib in
theorem Tryz.strings_Cut (s sep:ByteArray)(m:Int)(w:World)(hs:s.size<4294967281)(hm:w.cell? ⟨0,0,none⟩=some (.int .i64 m)):
 Calls Tryz.prog 81 #[.string s,.string sep] w fun e w'=>e= .returned (.tuple #[.string ⟨(Lib.cut s.data.toList sep.data.toList).1.toArray⟩,.string ⟨(Lib.cut s.data.toList sep.data.toList).2.1.toArray⟩,.bool (Lib.cut s.data.toList sep.data.toList).2.2])/\∃n,w'=w.drewN n:=Any.strings_Cut Tryz.lays145 s sep m w hs hm
def Tryz.laysGw17_ren:Go.Shelf.Ren:=⟨fun|17=>113|15=>177|20=>221|n=>n,fun|9=>9|23=>162|4=>4|3=>3|0=>0|21=>21|n=>n,fun|n=>n⟩
theorem Tryz.laysGw17:Go.Proofs.LaysGw.n17 Tryz.prog Tryz.laysGw17_ren:={
 mixed:=by kernel_rfl
 f15:=Tryz.func177.trans (Ar some qN)
 f17:=Tryz.func113.trans (Ar some qN)
 f20:=Tryz.func221.trans (Ar some qN)
 t0:=Tryz.underlying0
 a0:=Tryz.isAgg0
 z0:=Tryz.sizeOf0
 v0:=Tryz.zeroValue0
 i0:=by kernel_rfl
 t3:=Tryz.underlying3
 a3:=Tryz.isAgg3
 z3:=Tryz.sizeOf3
 v3:=Tryz.zeroValue3
 i3:=by kernel_rfl
 t4:=Tryz.underlying4
 a4:=Tryz.isAgg4
 z4:=Tryz.sizeOf4
 v4:=Tryz.zeroValue4
 i4:=by kernel_rfl
 t9:=Tryz.underlying9
 a9:=Tryz.isAgg9
 z9:=Tryz.sizeOf9
 v9:=Tryz.zeroValue9
 i9:=by kernel_rfl
 t21:=Tryz.underlying21
 a21:=Tryz.isAgg21
 z21:=Tryz.sizeOf21
 v21:=Tryz.zeroValue21
 i21:=by kernel_rfl
 t23:=Tryz.underlying162
 a23:=Tryz.isAgg162
 z23:=Tryz.sizeOf162
 v23:=Tryz.zeroValue162
 i23:=by kernel_rfl}
open Go.RowKit Go.Lib in
theorem Tryz.strings_ContainsFunc_runes (g:Nat)(lb:Array Value)(eg:∀args w,(callFunc g args).run Tryz.prog w= .ok (.enter g args) w)(p:Nat->Bool)(s:ByteArray)(w:World)(hp:PredAtRunes Tryz.prog g lb p w):
 Calls Tryz.prog 113 #[.string s,.func (.func g) #[] lb] w fun e w'=>e= .returned (.bool (decide (0<=Lib.idxFunc p true s)))/\Below w.heap.size w w':=Any.strings_ContainsFunc_runes Tryz.laysGw17 g lb eg p s w hp
def Tryz.lays99_ren:Go.Shelf.Ren:=⟨fun|99=>84|206=>135|n=>n,fun|9=>9|4=>4|3=>3|n=>n,fun|n=>n⟩
theorem Tryz.lays99:Go.Proofs.Lays.n99 Tryz.prog Tryz.lays99_ren:={
 mixed:=by kernel_rfl
 f99:=Tryz.func84.trans (Ar some qN)
 f206:=Tryz.func135.trans (Ar some qN)
 t3:=Tryz.underlying3
 a3:=Tryz.isAgg3
 z3:=Tryz.sizeOf3
 v3:=Tryz.zeroValue3
 t4:=Tryz.underlying4
 a4:=Tryz.isAgg4
 z4:=Tryz.sizeOf4
 v4:=Tryz.zeroValue4
 t9:=Tryz.underlying9
 a9:=Tryz.isAgg9
 z9:=Tryz.sizeOf9
 v9:=Tryz.zeroValue9}
open Go.RowKit Go.Lib in
theorem Tryz.strings_HasPrefix (s p:ByteArray)(w:World):
 Calls Tryz.prog 84 #[.string s,.string p] w fun e w'=>e= .returned (.bool (Lib.hasPrefix s.data.toList p.data.toList))/\w'=w:=Any.strings_HasPrefix Tryz.lays99 s p w
def Tryz.lays101_ren:Go.Shelf.Ren:=⟨fun|101=>82|208=>133|206=>135|n=>n,fun|9=>9|4=>4|3=>3|n=>n,fun|n=>n⟩
theorem Tryz.lays101:Go.Proofs.Lays.n101 Tryz.prog Tryz.lays101_ren:={
 mixed:=by kernel_rfl
 f101:=Tryz.func82.trans (Ar some qN)
 f206:=Tryz.func135.trans (Ar some qN)
 f208:=Tryz.func133.trans (Ar some qN)
 t3:=Tryz.underlying3
 a3:=Tryz.isAgg3
 z3:=Tryz.sizeOf3
 v3:=Tryz.zeroValue3
 t4:=Tryz.underlying4
 a4:=Tryz.isAgg4
 z4:=Tryz.sizeOf4
 v4:=Tryz.zeroValue4
 t9:=Tryz.underlying9
 a9:=Tryz.isAgg9
 z9:=Tryz.sizeOf9
 v9:=Tryz.zeroValue9}
open Go.RowKit Go.Lib in
theorem Tryz.strings_TrimPrefix (s p:ByteArray)(w:World):
 Calls Tryz.prog 82 #[.string s,.string p] w fun e w'=>e= .returned (.string ⟨(Lib.trimPrefix s.data.toList p.data.toList).toArray⟩)/\w'=w:=Any.strings_TrimPrefix Tryz.lays101 s p w
def Tryz.lays155_ren:Go.Shelf.Ren:=⟨fun|155=>75|154=>124|138=>186|165=>187|143=>65|166=>188|197=>189|169=>130|195=>226|218=>227|240=>193|241=>228|219=>98|260=>229|276=>232|277=>241|217=>171|225=>172|224=>173|267=>174|266=>218|314=>219|n=>n,fun|9=>9|3=>3|4=>4|72=>181|0=>0|76=>214|105=>210|21=>21|5=>5|70=>179|20=>20|37=>40|75=>119|127=>218|164=>254|46=>200|119=>267|139=>270|138=>269|146=>246|51=>206|80=>183|n=>n,fun|1=>0|3=>6|4=>7|n=>n⟩
theorem Tryz.lays155:Go.Proofs.Lays.n155 Tryz.prog Tryz.lays155_ren:={
 mixed:=by kernel_rfl
 f138:=Tryz.func186.trans (Ar some qN)
 f143:=Tryz.func65.trans (Ar some qN)
 f154:=Tryz.func124.trans (Ar some qN)
 f155:=Tryz.func75.trans (Ar some qN)
 f165:=Tryz.func187.trans (Ar some qN)
 f166:=Tryz.func188.trans (Ar some qN)
 f169:=Tryz.func130.trans (Ar some qN)
 f195:=Tryz.func226.trans (Ar some qN)
 f197:=Tryz.func189.trans (Ar some qN)
 f217:=Tryz.func171.trans (Ar some qN)
 f218:=Tryz.func227.trans (Ar some qN)
 f219:=Tryz.func98.trans (Ar some qN)
 f224:=Tryz.func173.trans (Ar some qN)
 f225:=Tryz.func172.trans (Ar some qN)
 f240:=Tryz.func193.trans (Ar some qN)
 f241:=Tryz.func228.trans (Ar some qN)
 f260:=Tryz.func229.trans (Ar some qN)
 f266:=Tryz.func218.trans (Ar some qN)
 f267:=Tryz.func174.trans (Ar some qN)
 f276:=Tryz.func232.trans (Ar some qN)
 f277:=Tryz.func241.trans (Ar some qN)
 f314:=Tryz.func219.trans (Ar some qN)
 t0:=Tryz.underlying0
 a0:=Tryz.isAgg0
 z0:=Tryz.sizeOf0
 v0:=Tryz.zeroValue0
 t3:=Tryz.underlying3
 a3:=Tryz.isAgg3
 z3:=Tryz.sizeOf3
 v3:=Tryz.zeroValue3
 t4:=Tryz.underlying4
 a4:=Tryz.isAgg4
 z4:=Tryz.sizeOf4
 v4:=Tryz.zeroValue4
 t5:=Tryz.underlying5
 a5:=Tryz.isAgg5
 z5:=Tryz.sizeOf5
 v5:=Tryz.zeroValue5
 t9:=Tryz.underlying9
 a9:=Tryz.isAgg9
 z9:=Tryz.sizeOf9
 v9:=Tryz.zeroValue9
 t20:=Tryz.underlying20
 a20:=Tryz.isAgg20
 z20:=Tryz.sizeOf20
 v20:=Tryz.zeroValue20
 t21:=Tryz.underlying21
 a21:=Tryz.isAgg21
 z21:=Tryz.sizeOf21
 v21:=Tryz.zeroValue21
 t37:=Tryz.underlying40
 a37:=Tryz.isAgg40
 z37:=Tryz.sizeOf40
 v37:=Tryz.zeroValue40
 t46:=Tryz.underlying200
 a46:=Tryz.isAgg200
 z46:=Tryz.sizeOf200
 v46:=Tryz.zeroValue200
 t51:=Tryz.underlying206
 a51:=Tryz.isAgg206
 z51:=Tryz.sizeOf206
 v51:=Tryz.zeroValue206
 t70:=Tryz.underlying179
 a70:=Tryz.isAgg179
 z70:=Tryz.sizeOf179
 v70:=Tryz.zeroValue179
 t72:=Tryz.underlying181
 a72:=Tryz.isAgg181
 z72:=Tryz.sizeOf181
 v72:=Tryz.zeroValue181
 t75:=Tryz.underlying119
 a75:=Tryz.isAgg119
 z75:=Tryz.sizeOf119
 v75:=Tryz.zeroValue119
 t76:=Tryz.underlying214
 a76:=Tryz.isAgg214
 z76:=Tryz.sizeOf214
 v76:=Tryz.zeroValue214
 t105:=Tryz.underlying210
 a105:=Tryz.isAgg210
 z105:=Tryz.sizeOf210
 v105:=Tryz.zeroValue210
 t119:=Tryz.underlying267
 a119:=Tryz.isAgg267
 z119:=Tryz.sizeOf267
 t127:=Tryz.underlying218
 a127:=Tryz.isAgg218
 z127:=Tryz.sizeOf218
 v127:=Tryz.zeroValue218
 t138:=Tryz.underlying269
 a138:=Tryz.isAgg269
 z138:=Tryz.sizeOf269
 v138:=Tryz.zeroValue269
 t139:=Tryz.underlying270
 a139:=Tryz.isAgg270
 z139:=Tryz.sizeOf270
 v139:=Tryz.zeroValue270
 t146:=Tryz.underlying246
 a146:=Tryz.isAgg246
 z146:=Tryz.sizeOf246
 v146:=Tryz.zeroValue246
 t164:=Tryz.underlying254
 a164:=Tryz.isAgg254
 z164:=Tryz.sizeOf254
 v164:=Tryz.zeroValue254
 g1:=by kernel_rfl
 g3:=by kernel_rfl
 g4:=by kernel_rfl}
theorem Tryz.Builder_Extra_155:Builder.Extra Tryz.prog Tryz.lays155_ren:={
 sizeBuilder:=by kernel_rfl
 liesBuilder:=by kernel_rfl
 t5:=Tryz.underlying5
 a5:=Tryz.isAgg5
 z5:=Tryz.sizeOf5
 v5:=Tryz.zeroValue5
 infoByte:=by kernel_rfl
 cellsByte:=by kernel_rfl
 sizeByte:=by kernel_rfl
 neB5:=by decide}
open Go.RowKit Go.Lib in
theorem Tryz.strings_ReplaceAll (s old new:ByteArray)(m:Int)(w:World)(hs:s.size<4294967281)(hm:w.cell? ⟨0,0,none⟩=some (.int .i64 m))(h1:1<=old.size)(hlen:s.size+Lib.countB s old*new.size<=140737488355328):
 Calls Tryz.prog 75 #[.string s,.string old,.string new] w fun e w'=>
  e= .returned (.string ⟨(Lib.replaceAll s.data.toList old.data.toList new.data.toList).toArray⟩)/\Below w.heap.size w w':=Any.strings_ReplaceAll Tryz.lays155 Tryz.Builder_Extra_155 s old new m w hs hm h1 hlen
def Tryz.lays111_ren:Go.Shelf.Ren:=⟨fun|111=>60|n=>n,fun|28=>41|3=>3|4=>4|0=>0|n=>n,fun|n=>n⟩
theorem Tryz.lays111:Go.Proofs.Lays.n111 Tryz.prog Tryz.lays111_ren:={
 mixed:=by kernel_rfl
 f111:=Tryz.func60.trans (Ar some qN)
 t0:=Tryz.underlying0
 a0:=Tryz.isAgg0
 z0:=Tryz.sizeOf0
 v0:=Tryz.zeroValue0
 t3:=Tryz.underlying3
 a3:=Tryz.isAgg3
 z3:=Tryz.sizeOf3
 v3:=Tryz.zeroValue3
 t4:=Tryz.underlying4
 a4:=Tryz.isAgg4
 z4:=Tryz.sizeOf4
 v4:=Tryz.zeroValue4
 t28:=Tryz.underlying41
 a28:=Tryz.isAgg41
 z28:=Tryz.sizeOf41
 v28:=Tryz.zeroValue41}
open Go.RowKit Go.Lib in
theorem Tryz.slices_Equal_int (b1 o1 n c b2 o2 m d:Nat)(xs ys:List Int)(w:World)(hx:n<=xs.length)(hy:m<=ys.length)(hbig:n<=9223372036854775807)(hbig2:m<=9223372036854775807)(hc1:∀j,j<xs.length->w.cell? ⟨b1,o1+j,none⟩=some (.int .i64 (xs.getD j 0)))(hc2:∀j,j<ys.length->w.cell? ⟨b2,o2+j,none⟩=some (.int .i64 (ys.getD j 0))):
 Calls Tryz.prog 60 #[.slice (some ⟨b1,o1,none⟩) n c,.slice (some ⟨b2,o2,none⟩) m d] w fun e w'=>e= .returned (.bool (xs.take n==ys.take m))/\∃q,w'=w.drewN q:=Any.slices_Equal_int Tryz.lays111 b1 o1 n c b2 o2 m d xs ys w hx hy hbig hbig2 hc1 hc2
open Go.RowKit Go.Lib in
theorem Tryz.slices_Equal_int_empty (a1 a2:Option Addr)(c m d:Nat)(w:World)(hbig2:m<=9223372036854775807):
 Calls Tryz.prog 60 #[.slice a1 0 c,.slice a2 m d] w fun e w'=>e= .returned (.bool (decide (m=0)))/\w'=w:=Any.slices_Equal_int_empty Tryz.lays111 a1 a2 c m d w hbig2
end Go.Proofs
namespace Go.Proofs.YtgfakdobajgnfaaGreatDoor
open Go Go.RowKit Go.Lib
def Ek (n:Nat):Bool:=decide (97<=n/\n<=122)
def Jj (n:Nat):Bool:=decide (48<=n/\n<=57)
def Iy (n:Nat):Bool:=!Ek n && !Jj n
def Jc (n:Nat):Bool:=decide (n<32\/126<n)
def H9 (s:ByteArray):Bool:=match s.data.toList with
 |[]=>false
 |c::r=>decide (s.size<=12) && Ek c.toNat && !(r.any fun b=>Iy b.toNat)
def Lq (s:ByteArray):Bool:=decide (s.size<=200) && !(s.data.toList.any fun b=>Jc b.toNat)
def gJ (v:Vl):Bool:=
 if v.k=0 then decide (v.n=0) && decide (v.s.size=0) else if v.k=1\/v.k=2 then decide (v.s.size=0) else if v.k=3 then decide (v.n=0) && Lq v.s
 else if v.k=4 then decide (v.s.size=0) && decide (v.n=0\/v.n=1) else if v.k=5 then decide (v.n=0) && H9 v.s else false
theorem lJ {s:ByteArray}{pos:Nat}(h:pos<s.size):s.data.toList.drop pos=s.get! pos::s.data.toList.drop (pos+1):=by
 have h':pos<s.data.toList.length:=by simpa using h
 rw[List.drop_eq_getElem_cons h'];congr 1;simp only[ByteArray.get!];rw[getElem!_pos s.data pos rI];simp
theorem Y2 (p:Nat->Bool)(hp:∀r,128<=r->p r=true)(s:ByteArray):∀(f pos:Nat),s.size<=pos+f->
 decide (0<=idxFuncFrom p true s f pos)=(s.data.toList.drop pos).any (fun b=>p b.toNat)
 |0,pos,h=>by
  rw[List.drop_eq_nil_of_le rI];rfl
 |f+1,pos,h=>by
  unfold idxFuncFrom;by_cases hlt:pos<s.size
  ·rw[Ap hlt,lJ hlt,List.any_cons];rcases decodeN_cases (s.size - pos) (s.get! pos).toNat (s.get! (pos+1)).toNat (s.get! (pos+2)).toNat (s.get! (pos+3)).toNat with ⟨c,e⟩|e'
   ·rw[←decode_at] at e;rw[e];cases hq:p (s.get! pos).toNat
    ·simp only[Bool.false_eq_true,if_false,Bool.false_or];exact Y2 p hp s f (pos+1) qO
    simp
   have hr:128<=(Utf8.decode s pos).1:=by
    rw[decode_at];rcases e' with ⟨_,_,_,_,e⟩|⟨_,_,_,_,_,e⟩|⟨_,e⟩|e
    ·rw[e];assumption
    ·rw[e];simp only;omega
    ·omega
    rw[e];simp
   rw[hp _ hr,Ap rfl];by_cases hb:(s.get! pos).toNat<128
   ·exfalso
    have:decodeN (s.size - pos) (s.get! pos).toNat (s.get! (pos+1)).toNat (s.get! (pos+2)).toNat (s.get! (pos+3)).toNat=((s.get! pos).toNat,1):=by
     unfold decodeN;rw[Ap hb]
    rw[decode_at,this] at hr;simp only at hr;omega
   rw[hp _ qO];simp
  rw[Ao hlt,List.drop_eq_nil_of_le (by simpa using Nat.le_of_not_lt hlt)];rfl
theorem Ql (p:Nat->Bool)(hp:∀r,128<=r->p r=true)(s:ByteArray):decide (0<=idxFunc p true s)=s.data.toList.any (fun b=>p b.toNat):=by
 have:=Y2 p hp s s.size 0 qO
 rw[List.drop_zero] at this;exact this
theorem nA (r:Nat)(h:128<=r):Iy r=true:=by
 have h1:¬(97<=r/\r<=122):=by omega
 have h2:¬(48<=r/\r<=57):=by omega
 simp [Iy,Ek,Jj,h1,h2]
theorem mE (r:Nat)(h:128<=r):Jc r=true:=by
 have h1:r<32\/126<r:=by omega
 simp [Jc,h1]
theorem nE (x:Nat)(W:World)(hx:x<=1114111):Calls Tryz.prog 115 #[.int .i32 (x:Int)] W fun e w'=>e= .returned (.bool (Iy x))/\w'=W:=by
 by_cases h1:x<97
 ·have d1:decide ((x:Int)<97)=true:=by simp;omega
  by_cases h3:x<48
  ·have d3:decide ((x:Int)<48)=true:=by simp;omega
   exact zx7
  have d3:decide ((x:Int)<48)=false:=by simp;omega
  by_cases h4:57<x
  ·have d4:decide ((57:Int)<(x:Int))=true:=by simp;omega
   exact zx7
  have d4:decide ((57:Int)<(x:Int))=false:=by simp;omega
  go_enter Tryz.func115,Tryz.ntmps115
  go_wp2
  go_ret;exact⟨by simp [Iy,Ek,Jj,show ¬(97<=x/\x<=122) by omega,show(48<=x/\x<=57) by omega],rfl⟩
 have d1:decide ((x:Int)<97)=false:=by simp;omega
 by_cases h2:122<x
 ·have d2:decide ((122:Int)<(x:Int))=true:=by simp;omega
  have d3:decide ((x:Int)<48)=false:=by simp;omega
  have d4:decide ((57:Int)<(x:Int))=true:=by simp;omega
  exact zx7
 have d2:decide ((122:Int)<(x:Int))=false:=by simp;omega
 go_enter Tryz.func115,Tryz.ntmps115
 go_wp2
 go_ret;exact⟨by simp [Iy,Ek,Jj,show(97<=x/\x<=122) by omega],rfl⟩
theorem mU (x:Nat)(W:World)(hx:x<=1114111):Calls Tryz.prog 114 #[.int .i32 (x:Int)] W fun e w'=>e= .returned (.bool (Jc x))/\w'=W:=by
 by_cases h1:x<32
 ·have d1:decide ((x:Int)<32)=true:=by simp;omega
  go_enter Tryz.func114,Tryz.ntmps114
  go_wp2
  go_ret;exact⟨by simp [Jc,h1],rfl⟩
 have d1:decide ((x:Int)<32)=false:=by simp;omega
 by_cases h2:126<x
 ·have d2:decide ((126:Int)<(x:Int))=true:=by simp;omega
  go_enter Tryz.func114,Tryz.ntmps114
  go_wp2
  go_ret;exact⟨by simp [Jc,h2],rfl⟩
 have d2:decide ((126:Int)<(x:Int))=false:=by simp;omega
 go_enter Tryz.func114,Tryz.ntmps114
 go_wp2
 go_ret;exact⟨by simp [Jc,h1,h2],rfl⟩
theorem dJ (s:ByteArray)(w:World):Calls Tryz.prog 113 #[.string s,.func (.func 115) #[] #[]] w fun e w'=>e= .returned (.bool (s.data.toList.any fun b=>Iy b.toNat))/\Below w.heap.size w w':=by
 rw[←Ql Iy nA];exact Tryz.strings_ContainsFunc_runes 115 #[] (enters_of Tryz.func115 qN rfl) Iy s w fun W x hx _=>(nE x W hx).mono fun e w' ⟨he,hw⟩=>⟨he,0,hw⟩
theorem fO (s:ByteArray)(w:World):Calls Tryz.prog 113 #[.string s,.func (.func 114) #[] #[]] w fun e w'=>e= .returned (.bool (s.data.toList.any fun b=>Jc b.toNat))/\Below w.heap.size w w':=by
 rw[←Ql Jc mE];exact Tryz.strings_ContainsFunc_runes 114 #[] (enters_of Tryz.func114 qN rfl) Jc s w fun W x hx _=>(mU x W hx).mono fun e w' ⟨he,hw⟩=>⟨he,0,hw⟩
open Go Go.RowKit Go.Lib
theorem Jg {a b:Bool}(h:a=b):Ending.returned (.bool a)= .returned (.bool b):=by rw[h]
theorem Nx {s:ByteArray}(h:s.size=0):s.toList=[]:=by
 rw[ByteArray.toList_eq];exact List.eq_nil_of_length_eq_zero rI
theorem My {s:ByteArray}(h:0<s.size):¬s.toList=[]:=by
 rw[ByteArray.toList_eq];intro e;have hl:s.data.toList.length=s.size:=by simp
 rw[e] at hl;simp at hl;omega
theorem N1 {s:ByteArray}(h:0<s.size):s.toList.isEmpty=false:=by
 have:=My h
 cases hl:s.toList with
 |nil=>exact absurd hl this
 |cons=>rfl
theorem Sf {s:ByteArray}(h:s.size=0):s.toList.isEmpty=true:=by rw[Nx h];rfl
theorem eG {s:ByteArray}(h:0<s.size):∃r,s.data.toList=s[0]::r:=by
 have h':0<s.data.toList.length:=by simpa using h
 refine⟨s.data.toList.tail,?_⟩;cases hl:s.data.toList with
 |nil=>simp [hl] at h'
 |cons c r=>
  have:s.data.toList[0]=c:=by simp [hl]
  rw[List.tail_cons,←this];rfl
theorem Sl {s:ByteArray}(h:s.size=0):H9 s=false:=by
 have:s.data.toList=[]:=List.eq_nil_of_length_eq_zero rI
 simp [H9,this]
theorem O5 {s:ByteArray}(h:0<s.size):H9 s=(decide (s.size<=12) && Ek s[0].toNat && !(s.data.toList.any fun b=>Iy b.toNat)):=by
 obtain⟨r,hr⟩:=eG h;unfold H9;rw[hr];simp only[List.any_cons];cases hl:Ek s[0].toNat
 ·simp
 simp [Iy,hl]
theorem aI (s:ByteArray)(hs:s.size<=9223372036854775807)(w:World):
 Calls Tryz.prog 72 #[.string s] w fun e w'=>e= .returned (.bool (H9 s))/\Below w.heap.size w w':=by
 by_cases h0:s.size=0
 ·have hq:=Sl h0;have h1:=Nx h0;have h2:=Sf h0;rw[hq];clear h0 hq;exact zxu
 have hp:0<s.size:=by omega
 have hq:=O5 hp;have h1:=My hp;have h2:=N1 hp;clear h0;by_cases h12:s.size<=12
 ·have d12:(s.size:Int)<=12:=by omega
  have e12:decide (12<(s.size:Int))=false:=by simp;omega
  rw[Am h12] at hq;obtain⟨c,hc⟩:∃c:UInt8,s[0]=c:=⟨_,rfl⟩;rw[hc] at hq;by_cases ha:c.toNat<97
  ·have hl:Ek c.toNat=false:=by simp [Ek];omega
   rw[hl] at hq;rw[hq];have da:(s[0].toNat:Int)<97:=by rw[hc];omega
   clear hq hc ha hl;exact zxu
  have da:97<=(s[0].toNat:Int):=by rw[hc];omega
  by_cases hz:122<c.toNat
  ·have hl:Ek c.toNat=false:=by simp [Ek];omega
   rw[hl] at hq;rw[hq];have dz:122<(s[0].toNat:Int):=by rw[hc];omega
   clear hq hc ha hl;exact zxu
  have hl:Ek c.toNat=true:=by simp [Ek];omega
  rw[hl] at hq;rw[hq];have dz:(s[0].toNat:Int)<=122:=by rw[hc];omega
  have hcc:=dJ s w;obtain⟨b,hb⟩:∃b,(s.data.toList.any fun b=>Iy b.toNat)=b:=⟨_,rfl⟩;rw[hb] at hcc ⊢;have Hc:=Ax hcc;clear hq hc ha hl hb hcc hz;go_enter Tryz.func72,Tryz.ntmps72;exact zxn
 have hq':H9 s=false:=by rw[hq,An h12];rfl
 rw[hq'];have d12:12<(s.size:Int):=by omega
 clear hq hq' h12;exact zxu
theorem bB (s:ByteArray)(hs:s.size<=9223372036854775807)(w:World):
 Calls Tryz.prog 71 #[.string s] w fun e w'=>e= .returned (.bool (Lq s))/\Below w.heap.size w w':=by
 unfold Lq;by_cases h:s.size<=200
 ·have d:(s.size:Int)<=200:=by omega
  rw[Am h];have hcc:=fO s w;obtain⟨b,hb⟩:∃b,(s.data.toList.any fun b=>Jc b.toNat)=b:=⟨_,rfl⟩;rw[hb] at hcc ⊢;have Hc:=Ax hcc;clear hb hcc h;go_enter Tryz.func71,Tryz.ntmps71;exact zxn
 have d:200<(s.size:Int):=by omega
 rw[An h];clear h;go_enter Tryz.func71,Tryz.ntmps71
 go_wp2
 go_ret;exact⟨rfl,Aq _ _⟩
theorem Ea (s:ByteArray){b:Bool}(hb:decide (s.size=0)=b):s.toList.isEmpty=b/\(b=true->s.toList=[])/\(b=false->¬s.toList=[]):=by
 cases b
 ·have:0<s.size:=Nat.pos_of_ne_zero (of_decide_eq_false hb)
  exact⟨N1 this,(fun h=>by cases h),fun _=>My this⟩
 have:s.size=0:=of_decide_eq_true hb
 exact⟨Sf this,fun _=>Nx this,(fun h=>by cases h)⟩
def F2 (w:World)(b:Bool)(e:Ending)(w':World):Prop:=e= .returned (.bool b)/\Below w.heap.size w w'
theorem jJ (n:Int)(s:ByteArray)(w:World):Calls Tryz.prog 42 #[.agg #[.int .u8 0,.int .i64 n,.string s]] w (F2 w (decide (n=0) && decide (s.size=0))):=by
 have HB:=Ax ((Aq w.heap.size w).alloc (Ak _) (.cells #[.int .u8 0,.int .i64 n,.string s] 23));obtain⟨q,hq⟩:∃q,decide (s.size=0)=q:=⟨_,rfl⟩;obtain⟨he1,he2,he3⟩:=Ea s hq;rw[hq];clear hq;by_cases hn:n=0
 ·subst hn;cases q
  ·have he:=he3 rfl;clear he2 he3;go_enter Tryz.func42,Tryz.ntmps42;exact zzj
  have he:=he2 rfl;clear he2 he3;go_enter Tryz.func42,Tryz.ntmps42;exact zzj
 have h0:(n==0)=false:=by simpa using hn
 rw[An hn];cases q
 ·have he:=he3 rfl;clear he2 he3;go_enter Tryz.func42,Tryz.ntmps42;exact zzj
 have he:=he2 rfl;clear he2 he3;go_enter Tryz.func42,Tryz.ntmps42;exact zzj
theorem nP (k n:Int)(s:ByteArray)(w:World)(hk:k=1\/k=2):Calls Tryz.prog 42 #[.agg #[.int .u8 k,.int .i64 n,.string s]] w (F2 w (decide (s.size=0))):=by
 have HB:=Ax ((Aq w.heap.size w).alloc (Ak _) (.cells #[.int .u8 k,.int .i64 n,.string s] 23));obtain⟨q,hq⟩:∃q,decide (s.size=0)=q:=⟨_,rfl⟩;obtain⟨he1,he2,he3⟩:=Ea s hq;rw[hq];clear hq;rcases hk with rfl|rfl
 all_goals
  cases q
  ·have he:=he3 rfl;clear he2 he3;go_enter Tryz.func42,Tryz.ntmps42;exact zzj
  have he:=he2 rfl;clear he2 he3;go_enter Tryz.func42,Tryz.ntmps42;exact zzj
theorem oK (n:Int)(s:ByteArray)(hs:s.size<=9223372036854775807)(w:World):Calls Tryz.prog 42 #[.agg #[.int .u8 3,.int .i64 n,.string s]] w (F2 w (decide (n=0) && Lq s)):=by
 have HB:=Ax ((Aq w.heap.size w).alloc (Ak _) (.cells #[.int .u8 3,.int .i64 n,.string s] 23));have hc:=bB s hs (w.alloc (.cells #[.int .u8 3,.int .i64 n,.string s] 23));obtain⟨b,hb⟩:∃b,Lq s=b:=⟨_,rfl⟩;rw[hb] at hc ⊢;have Hc:=Ax hc;clear hc hb;by_cases hn:n=0
 ·exact zxt
 have h0:(n==0)=false:=by simpa using hn
 rw[An hn];clear hn;go_enter Tryz.func42,Tryz.ntmps42;exact zzj
theorem mM (n:Int)(s:ByteArray)(hs:s.size<=9223372036854775807)(w:World):Calls Tryz.prog 42 #[.agg #[.int .u8 5,.int .i64 n,.string s]] w (F2 w (decide (n=0) && H9 s)):=by
 have HB:=Ax ((Aq w.heap.size w).alloc (Ak _) (.cells #[.int .u8 5,.int .i64 n,.string s] 23));have hc:=aI s hs (w.alloc (.cells #[.int .u8 5,.int .i64 n,.string s] 23));obtain⟨b,hb⟩:∃b,H9 s=b:=⟨_,rfl⟩;rw[hb] at hc ⊢;have Hc:=Ax hc;clear hc hb;by_cases hn:n=0
 ·exact zxt
 have h0:(n==0)=false:=by simpa using hn
 rw[An hn];clear hn;go_enter Tryz.func42,Tryz.ntmps42;exact zzj
theorem kT (n:Int)(s:ByteArray)(w:World):Calls Tryz.prog 42 #[.agg #[.int .u8 4,.int .i64 n,.string s]] w (F2 w (decide (s.size=0) && decide (n=0\/n=1))):=by
 have HB:=Ax ((Aq w.heap.size w).alloc (Ak _) (.cells #[.int .u8 4,.int .i64 n,.string s] 23));obtain⟨q,hq⟩:∃q,decide (s.size=0)=q:=⟨_,rfl⟩;obtain⟨he1,he2,he3⟩:=Ea s hq;rw[hq];clear hq;cases q
 ·have he:=he3 rfl;clear he2 he3;go_enter Tryz.func42,Tryz.ntmps42;exact zzj
 have he:=he2 rfl;clear he2 he3;by_cases h0:n=0
 ·subst h0;go_enter Tryz.func42,Tryz.ntmps42;exact zzj
 by_cases h1:n=1
 ·subst h1;go_enter Tryz.func42,Tryz.ntmps42;exact zzj
 have e0:(n==0)=false:=by simpa using h0
 have e1:(n==1)=false:=by simpa using h1
 rw[An qO];clear h0 h1;go_enter Tryz.func42,Tryz.ntmps42;exact zzj
theorem fM (k n:Int)(s:ByteArray)(w:World)(hk:k<0\/5<k):Calls Tryz.prog 42 #[.agg #[.int .u8 k,.int .i64 n,.string s]] w (F2 w false):=by
 have HB:=Ax ((Aq w.heap.size w).alloc (Ak _) (.cells #[.int .u8 k,.int .i64 n,.string s] 23));have e0:(k==0)=false:=by simp;omega
 have e1:(k==1)=false:=by simp;omega
 have e2:(k==2)=false:=by simp;omega
 have e3:(k==3)=false:=by simp;omega
 have e4:(k==4)=false:=by simp;omega
 have e5:(k==5)=false:=by simp;omega
 clear hk;go_enter Tryz.func42,Tryz.ntmps42;exact zzj
theorem mJ (v:Vl)(hv:v.s.size<=9223372036854775807)(w:World):
 Calls Tryz.prog 42 #[.agg #[.int .u8 v.k,.int .i64 v.n,.string v.s]] w fun e w'=>e= .returned (.bool (gJ v))/\Below w.heap.size w w':=by
 obtain⟨k,n,s⟩:=v;simp only at hv;unfold gJ;simp only;by_cases k0:k=0
 ·subst k0;rw[Ap rfl];exact jJ n s w
 rw[Ao k0];by_cases k1:k=1\/k=2
 ·rw[Ap k1];exact nP k n s w k1
 rw[Ao k1];by_cases k3:k=3
 ·subst k3;rw[Ap rfl];exact oK n s hv w
 rw[Ao k3];by_cases k4:k=4
 ·subst k4;rw[Ap rfl];exact kT n s w
 rw[Ao k4];by_cases k5:k=5
 ·subst k5;rw[Ap rfl];exact mM n s hv w
 rw[Ao k5];exact fM k n s w qO
open Go Go.Shelf Go.RowKit
def jF:Go.Shelf.Ren:=⟨fun|167=>129|240=>193|276=>232|n=>n,
 fun|0=>0|4=>4|5=>5|9=>9|20=>20|37=>40|70=>179|72=>181|75=>119|80=>183|164=>254|n=>n,fun|n=>n⟩
theorem mR:Go.Proofs.Lays.n167 Tryz.prog jF:={
 mixed:=by kernel_rfl
 f167:=Tryz.func129.trans (Ar some qN)
 f240:=Tryz.func193.trans (Ar some qN)
 f276:=Tryz.func232.trans (Ar some qN)
 t0:=Tryz.underlying0
 a0:=Tryz.isAgg0
 z0:=Tryz.sizeOf0
 v0:=Tryz.zeroValue0
 t4:=Tryz.underlying4
 a4:=Tryz.isAgg4
 z4:=Tryz.sizeOf4
 v4:=Tryz.zeroValue4
 t5:=Tryz.underlying5
 a5:=Tryz.isAgg5
 z5:=Tryz.sizeOf5
 v5:=Tryz.zeroValue5
 t9:=Tryz.underlying9
 a9:=Tryz.isAgg9
 z9:=Tryz.sizeOf9
 v9:=Tryz.zeroValue9
 t20:=Tryz.underlying20
 a20:=Tryz.isAgg20
 z20:=Tryz.sizeOf20
 v20:=Tryz.zeroValue20
 t37:=Tryz.underlying40
 a37:=Tryz.isAgg40
 z37:=Tryz.sizeOf40
 v37:=Tryz.zeroValue40
 t70:=Tryz.underlying179
 a70:=Tryz.isAgg179
 z70:=Tryz.sizeOf179
 v70:=Tryz.zeroValue179
 t72:=Tryz.underlying181
 a72:=Tryz.isAgg181
 z72:=Tryz.sizeOf181
 v72:=Tryz.zeroValue181
 t75:=Tryz.underlying119
 a75:=Tryz.isAgg119
 z75:=Tryz.sizeOf119
 v75:=Tryz.zeroValue119
 t164:=Tryz.underlying254
 a164:=Tryz.isAgg254
 z164:=Tryz.sizeOf254
 v164:=Tryz.zeroValue254}
theorem kM:Builder.Extra Tryz.prog jF:={
 sizeBuilder:=by kernel_rfl
 liesBuilder:=by kernel_rfl
 t5:=Tryz.underlying5
 a5:=Tryz.isAgg5
 z5:=Tryz.sizeOf5
 v5:=Tryz.zeroValue5
 infoByte:=by kernel_rfl
 cellsByte:=by kernel_rfl
 sizeByte:=by kernel_rfl
 neB5:=by decide}
theorem Ve (B b:Nat)(bs:List Value)(c:Int)(w:World)(h:Lib.IsBuilder 181 5 B b bs w)(hlen:bs.length+1<=140737488355328)(hBw:B<=w.heap.size):
 Calls Tryz.prog 129 #[.pointer (some ⟨b,0,none⟩),.int .u8 c] w fun e w'=>e= .returned .nilIface/\(Lib.IsBuilder 181 5 B b (bs++[.int .u8 c]) w'/\Below B w w'):=
 (Any.Builder_WriteByte mR kM B b bs c w h hlen hBw).mono fun _ _ h=>⟨h.1,.inr h.2.1,h.2.2⟩
end Go.Proofs.YtgfakdobajgnfaaGreatDoor

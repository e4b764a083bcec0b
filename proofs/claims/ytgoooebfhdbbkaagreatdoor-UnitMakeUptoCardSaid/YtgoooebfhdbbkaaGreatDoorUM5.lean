import Derived.Shelf.Strings.Builder1
import Derived.Shelf.Small.Strs
import Derived.Shelf.Small.Wraps
import Derived.Shelf.Strconv.Atoi
import Derived.Shelf.Strconv.Itoa0
import Derived.Shelf.Strconv.AtoiErrFast
import Derived.Shelf.Strconv.ParseIntEmpty
import Derived.Shelf.Strconv.AtoiFail
import Derived.Shelf.LaysM
import Derived.Shelf.Strconv.Clone
import Derived.Shelf.Strconv.SyntaxError
import Derived.Shelf.LaysC
import Derived.Shelf.Strconv.ToError
import Derived.Shelf.Strconv.Lower
import Derived.Shelf.Strconv.ParseUint10
import Derived.Shelf.Strconv.ParseUint10Empty
import Derived.Shelf.Strconv.ParseUint10Any
import Derived.Shelf.Strconv.ParseInt10
import Derived.Shelf.Strconv.AtoiLong
import Derived.Shelf.Strconv.AtoiInnerAll
import Derived.Shelf.Strconv.RangeError
import Derived.Shelf.Strconv.ToErrorRange
import Derived.Shelf.Strconv.AtoiAll
import Derived.Shelf.Strconv.ErrVarAll
import Derived.Shelf.Strconv.ParseUintEmpty
import Derived.Shelf.Strconv.ParseUint10b64
import Derived.Shelf.Strconv.ParseUint10b32
import Derived.Shelf.Strconv.ParseUint10b16
import Derived.Shelf.Strconv.ParseUint10b8
import Derived.Shelf.Strconv.ParseUint10At
import Derived.Shelf.Strconv.ParseInt10At64
import Derived.Shelf.Strconv.ParseInt10At32
import Derived.Shelf.Strconv.ParseInt10At16
import Derived.Shelf.Strconv.ParseInt10At8
import Derived.Shelf.Strconv.ParseInt10All
import Derived.Shelf.Strings.Search1
import Derived.Shelf.Strings.Search2
import Derived.Shelf.Strings.Search3
import Derived.Shelf.Strings.Cut
import Derived.Shelf.Strings.Count
import Derived.Shelf.Strings.Shaped
import Derived.Shelf.Strings.LastIndex
import Derived.Shelf.Strings.LastIndexAll
import Derived.Shelf.Strings.Prefix
import Derived.Shelf.Strings.Split
import Derived.Shelf.Strings.SplitShaped
import Derived.Shelf.Unicode.DecodeSlow
import Derived.Shelf.Unicode.DecodeAny
import Derived.Shelf.Strings.FieldsFuncAny
import Derived.Shelf.Strings.FieldsFuncGrows
import Derived.Shelf.Slices.Turned
import Derived.Ground.SlgnProg
import Derived.Shelf.SlicesE.Clone
import Derived.Ground.PaProg
import Derived.Shelf.Path.Small
import Derived.Test.YtgoooebfhdbbkaaGreatDoorProg
import Derived.Shelf.SlGeneric
import Derived.Shelf.SlicesQ.IndexFunc
import Derived.Shelf.SlicesQ.Equal
import Derived.Ground.SlgfProg
import Derived.Ground.SlgqProg
import Derived.Lib.AppendZerosOnto
import Derived.Lib.SliceRun
import Derived.Deep.LoopGhost
import Derived.Lib.SmallJoins
import Derived.Test.YtgoooebfhdbbkaaGreatDoorUM1
import Derived.Test.YtgoooebfhdbbkaaGreatDoorUM2
import Derived.Test.YtgoooebfhdbbkaaGreatDoorUM4
namespace Go.Proofs
open Go.Proofs.Tryz
open Go.Shelf
set_option linter.unusedVariables false
set_option linter.unusedSimpArgs false
set_option maxHeartbeats 16000000
def Tryz.findKey_ren:Go.Shelf.Ren:=⟨fun|6=>61|n=>n,fun|22=>98|23=>66|25=>101|3=>3|0=>0|4=>4|n=>n,fun|n=>n⟩
theorem Tryz.findKey:Go.Proofs.SlLaysH0.n6 prog Tryz.findKey_ren:={
 mixed:=by kernel_rfl
 f6:=⟨Tryz.f61.name,by decide,func61.trans (congrArg some (by kernel_rfl))⟩
 t0:=underlying0
 a0:=isAgg0
 z0:=sizeOf0
 v0:=zeroValue0
 t3:=underlying3
 a3:=isAgg3
 z3:=sizeOf3
 v3:=zeroValue3
 t4:=underlying4
 a4:=isAgg4
 z4:=sizeOf4
 v4:=zeroValue4
 t22:=underlying98
 a22:=isAgg98
 z22:=sizeOf98
 v22:=zeroValue98
 t25:=underlying101
 a25:=isAgg101
 z25:=sizeOf101
 v25:=zeroValue101 }
def Tryz.hasKey_ren:Go.Shelf.Ren:=⟨fun|8=>56|6=>61|n=>n,fun|22=>98|23=>66|25=>101|4=>4|3=>3|0=>0|n=>n,fun|n=>n⟩
theorem Tryz.hasKey:Go.Proofs.SlLaysH0.n8 prog Tryz.hasKey_ren:={
 mixed:=by kernel_rfl
 f6:=⟨Tryz.f61.name,by decide,func61.trans (congrArg some (by kernel_rfl))⟩
 f8:=⟨Tryz.f56.name,by decide,func56.trans (congrArg some (by kernel_rfl))⟩
 t0:=underlying0
 a0:=isAgg0
 z0:=sizeOf0
 v0:=zeroValue0
 t3:=underlying3
 a3:=isAgg3
 z3:=sizeOf3
 v3:=zeroValue3
 t4:=underlying4
 a4:=isAgg4
 z4:=sizeOf4
 v4:=zeroValue4
 t22:=underlying98
 a22:=isAgg98
 z22:=sizeOf98
 v22:=zeroValue98
 t25:=underlying101
 a25:=isAgg101
 z25:=sizeOf101
 v25:=zeroValue101 }
def Tryz.findPair_ren:Go.Shelf.Ren:=⟨fun|6=>159|n=>n,fun|22=>27|23=>78|25=>151|3=>3|0=>0|4=>4|n=>n,fun|n=>n⟩
theorem Tryz.findPair:Go.Proofs.SlLaysH0.n6 prog Tryz.findPair_ren:={
 mixed:=by kernel_rfl
 f6:=⟨Tryz.f159.name,by decide,func159.trans (congrArg some (by kernel_rfl))⟩
 t0:=underlying0
 a0:=isAgg0
 z0:=sizeOf0
 v0:=zeroValue0
 t3:=underlying3
 a3:=isAgg3
 z3:=sizeOf3
 v3:=zeroValue3
 t4:=underlying4
 a4:=isAgg4
 z4:=sizeOf4
 v4:=zeroValue4
 t22:=underlying27
 a22:=isAgg27
 z22:=sizeOf27
 v22:=zeroValue27
 t25:=underlying151
 a25:=isAgg151
 z25:=sizeOf151
 v25:=zeroValue151 }
def Tryz.findRel_ren:Go.Shelf.Ren:=⟨fun|6=>164|n=>n,fun|22=>24|23=>43|25=>158|3=>3|0=>0|4=>4|n=>n,fun|n=>n⟩
theorem Tryz.findRel:Go.Proofs.SlLaysH0.n6 prog Tryz.findRel_ren:={
 mixed:=by kernel_rfl
 f6:=⟨Tryz.f164.name,by decide,func164.trans (congrArg some (by kernel_rfl))⟩
 t0:=underlying0
 a0:=isAgg0
 z0:=sizeOf0
 v0:=zeroValue0
 t3:=underlying3
 a3:=isAgg3
 z3:=sizeOf3
 v3:=zeroValue3
 t4:=underlying4
 a4:=isAgg4
 z4:=sizeOf4
 v4:=zeroValue4
 t22:=underlying24
 a22:=isAgg24
 z22:=sizeOf24
 v22:=zeroValue24
 t25:=underlying158
 a25:=isAgg158
 z25:=sizeOf158
 v25:=zeroValue158 }
def Tryz.lays137_ren:Go.Shelf.Ren:=⟨fun|137=>138|217=>172|266=>207|n=>n,fun|9=>9|5=>5|3=>3|n=>n,fun|n=>n⟩
theorem lays137:Go.Proofs.Lays.n137 prog Tryz.lays137_ren:={
 mixed:=by kernel_rfl
 f137:=func138.trans (congrArg some (by kernel_rfl))
 f217:=func172.trans (congrArg some (by kernel_rfl))
 f266:=func207.trans (congrArg some (by kernel_rfl))
 t3:=underlying3
 a3:=isAgg3
 z3:=sizeOf3
 v3:=zeroValue3
 t5:=underlying5
 a5:=isAgg5
 z5:=sizeOf5
 v5:=zeroValue5
 t9:=underlying9
 a9:=isAgg9
 z9:=sizeOf9
 v9:=zeroValue9 }
open Go.RowKit in
theorem Tryz.strings_IndexByte(s:ByteArray)(c:Int)(w:World) :
  Calls prog 138 #[.string s,.int .u8 c] w fun e w'=>e=.returned (.int .i64 (Lib.indexByte s.data.toList c.toNat.toUInt8))/\w'=w:=Any.strings_IndexByte lays137 s c w
def Tryz.lays103_ren:Go.Shelf.Ren:=⟨fun|103=>108|210=>153|206=>177|n=>n,fun|9=>9|4=>4|24=>92|3=>3|n=>n,fun|n=>n⟩
theorem lays103:Go.Proofs.Lays.n103 prog Tryz.lays103_ren:={
 mixed:=by kernel_rfl
 f103:=func108.trans (congrArg some (by kernel_rfl))
 f206:=func177.trans (congrArg some (by kernel_rfl))
 f210:=func153.trans (congrArg some (by kernel_rfl))
 t3:=underlying3
 a3:=isAgg3
 z3:=sizeOf3
 v3:=zeroValue3
 t4:=underlying4
 a4:=isAgg4
 z4:=sizeOf4
 v4:=zeroValue4
 t9:=underlying9
 a9:=isAgg9
 z9:=sizeOf9
 v9:=zeroValue9
 t24:=underlying92
 a24:=isAgg92
 z24:=sizeOf92
 v24:=zeroValue92 }
open Go.RowKit in
theorem Tryz.strings_CutPrefix(s p:ByteArray)(w:World) :
  Calls prog 108 #[.string s,.string p] w fun e w'=>e=.returned (.tuple #[.string ⟨(Lib.trimPrefix s.data.toList p.data.toList).toArray⟩,.bool (Lib.hasPrefix s.data.toList p.data.toList)])/\w'=w:=Any.strings_CutPrefix lays103 s p w
def Tryz.lays172_ren:Go.Shelf.Ren:=⟨fun|172=>107|244=>151|245=>152|247=>191|279=>192|280=>193|281=>194|282=>195|287=>221|316=>222|171=>224|205=>223|321=>236|322=>237|243=>238|246=>246|283=>248|284=>249|285=>250|286=>251|129=>253|317=>252|318=>254|319=>255|320=>256|337=>257|338=>258|n=>n,fun|9=>9|3=>3|75=>90|76=>94|4=>4|5=>5|167=>207|37=>86|0=>0|85=>208|2=>2|168=>210|53=>236|175=>237|46=>161|210=>240|127=>138|145=>253|143=>251|21=>21|171=>258|173=>261|212=>268|51=>195|20=>20|213=>269|232=>273|233=>274|80=>96|n=>n,fun|15=>1|16=>2|17=>5|18=>6|19=>7|n=>n⟩
theorem lays172:Go.Proofs.Lays.n172 prog Tryz.lays172_ren:={
 mixed:=by kernel_rfl
 f129:=func253.trans (congrArg some (by kernel_rfl))
 f171:=func224.trans (congrArg some (by kernel_rfl))
 f172:=func107.trans (congrArg some (by kernel_rfl))
 f205:=func223.trans (congrArg some (by kernel_rfl))
 f243:=func238.trans (congrArg some (by kernel_rfl))
 f244:=func151.trans (congrArg some (by kernel_rfl))
 f245:=func152.trans (congrArg some (by kernel_rfl))
 f246:=func246.trans (congrArg some (by kernel_rfl))
 f247:=func191.trans (congrArg some (by kernel_rfl))
 f279:=func192.trans (congrArg some (by kernel_rfl))
 f280:=func193.trans (congrArg some (by kernel_rfl))
 f281:=func194.trans (congrArg some (by kernel_rfl))
 f282:=func195.trans (congrArg some (by kernel_rfl))
 f283:=func248.trans (congrArg some (by kernel_rfl))
 f284:=func249.trans (congrArg some (by kernel_rfl))
 f285:=func250.trans (congrArg some (by kernel_rfl))
 f286:=func251.trans (congrArg some (by kernel_rfl))
 f287:=func221.trans (congrArg some (by kernel_rfl))
 f316:=func222.trans (congrArg some (by kernel_rfl))
 f317:=func252.trans (congrArg some (by kernel_rfl))
 f318:=func254.trans (congrArg some (by kernel_rfl))
 f319:=func255.trans (congrArg some (by kernel_rfl))
 f320:=func256.trans (congrArg some (by kernel_rfl))
 f321:=func236.trans (congrArg some (by kernel_rfl))
 f322:=func237.trans (congrArg some (by kernel_rfl))
 f337:=func257.trans (congrArg some (by kernel_rfl))
 f338:=func258.trans (congrArg some (by kernel_rfl))
 t0:=underlying0
 a0:=isAgg0
 z0:=sizeOf0
 v0:=zeroValue0
 t2:=underlying2
 a2:=isAgg2
 z2:=sizeOf2
 v2:=zeroValue2
 t3:=underlying3
 a3:=isAgg3
 z3:=sizeOf3
 v3:=zeroValue3
 t4:=underlying4
 a4:=isAgg4
 z4:=sizeOf4
 v4:=zeroValue4
 t5:=underlying5
 a5:=isAgg5
 z5:=sizeOf5
 v5:=zeroValue5
 t9:=underlying9
 a9:=isAgg9
 z9:=sizeOf9
 v9:=zeroValue9
 t20:=underlying20
 a20:=isAgg20
 z20:=sizeOf20
 v20:=zeroValue20
 t21:=underlying21
 a21:=isAgg21
 z21:=sizeOf21
 v21:=zeroValue21
 t37:=underlying86
 a37:=isAgg86
 z37:=sizeOf86
 v37:=zeroValue86
 t46:=underlying161
 a46:=isAgg161
 z46:=sizeOf161
 v46:=zeroValue161
 t51:=underlying195
 a51:=isAgg195
 z51:=sizeOf195
 v51:=zeroValue195
 t53:=underlying236
 a53:=isAgg236
 z53:=sizeOf236
 v53:=zeroValue236
 t75:=underlying90
 a75:=isAgg90
 z75:=sizeOf90
 v75:=zeroValue90
 t76:=underlying94
 a76:=isAgg94
 z76:=sizeOf94
 v76:=zeroValue94
 t85:=underlying208
 a85:=isAgg208
 z85:=sizeOf208
 v85:=zeroValue208
 t127:=underlying138
 a127:=isAgg138
 z127:=sizeOf138
 v127:=zeroValue138
 t143:=underlying251
 a143:=isAgg251
 z143:=sizeOf251
 v143:=zeroValue251
 t145:=underlying253
 a145:=isAgg253
 z145:=sizeOf253
 v145:=zeroValue253
 t167:=underlying207
 a167:=isAgg207
 z167:=sizeOf207
 v167:=zeroValue207
 t168:=underlying210
 a168:=isAgg210
 z168:=sizeOf210
 v168:=zeroValue210
 t171:=underlying258
 a171:=isAgg258
 z171:=sizeOf258
 v171:=zeroValue258
 t173:=underlying261
 a173:=isAgg261
 z173:=sizeOf261
 v173:=zeroValue261
 t175:=underlying237
 a175:=isAgg237
 z175:=sizeOf237
 v175:=zeroValue237
 t210:=underlying240
 a210:=isAgg240
 z210:=sizeOf240
 v210:=zeroValue240
 t212:=underlying268
 a212:=isAgg268
 z212:=sizeOf268
 v212:=zeroValue268
 t213:=underlying269
 a213:=isAgg269
 z213:=sizeOf269
 t232:=underlying273
 a232:=isAgg273
 z232:=sizeOf273
 v232:=zeroValue273
 t233:=underlying274
 a233:=isAgg274
 z233:=sizeOf274
 v233:=zeroValue274
 g15:=by kernel_rfl
 g16:=by kernel_rfl
 g17:=by kernel_rfl
 g18:=by kernel_rfl
 g19:=by kernel_rfl }
open Go.RowKit in
theorem Tryz.strconv_Atoi(s:ByteArray)(n:Int)(hl:s.size<=18)(h:Lib.atoi s.data.toList=some n)(w:World) :
  Calls prog 107 #[.string s] w fun e w'=>e=.returned (.tuple #[.int .i64 n,.nilIface])/\∃t,w'=Lib.bytesWorld w 5 t:=Any.strconv_Atoi lays172 s n hl h w
def Tryz.lays143_ren:Go.Shelf.Ren:=⟨fun|143=>213|219=>135|217=>172|225=>173|224=>174|267=>175|266=>207|314=>208|n=>n,fun|9=>9|3=>3|4=>4|5=>5|46=>161|146=>196|51=>195|n=>n,fun|1=>0|n=>n⟩
theorem lays143:Go.Proofs.Lays.n143 prog Tryz.lays143_ren:={
 mixed:=by kernel_rfl
 f143:=func213.trans (congrArg some (by kernel_rfl))
 f217:=func172.trans (congrArg some (by kernel_rfl))
 f219:=func135.trans (congrArg some (by kernel_rfl))
 f224:=func174.trans (congrArg some (by kernel_rfl))
 f225:=func173.trans (congrArg some (by kernel_rfl))
 f266:=func207.trans (congrArg some (by kernel_rfl))
 f267:=func175.trans (congrArg some (by kernel_rfl))
 f314:=func208.trans (congrArg some (by kernel_rfl))
 t3:=underlying3
 a3:=isAgg3
 z3:=sizeOf3
 v3:=zeroValue3
 t4:=underlying4
 a4:=isAgg4
 z4:=sizeOf4
 v4:=zeroValue4
 t5:=underlying5
 a5:=isAgg5
 z5:=sizeOf5
 v5:=zeroValue5
 t9:=underlying9
 a9:=isAgg9
 z9:=sizeOf9
 v9:=zeroValue9
 t46:=underlying161
 a46:=isAgg161
 z46:=sizeOf161
 v46:=zeroValue161
 t51:=underlying195
 a51:=isAgg195
 z51:=sizeOf195
 v51:=zeroValue195
 t146:=underlying196
 a146:=isAgg196
 z146:=sizeOf196
 v146:=zeroValue196
 g1:=by kernel_rfl }
open Go.RowKit Go.Lib in
theorem Tryz.strings_Index_one(s:ByteArray)(c:UInt8)(w:World) :
  Calls prog 213 #[.string s,.string ⟨#[c]⟩] w fun e w'=>e=.returned (.int .i64 (Lib.indexByte s.data.toList c))/\w'=w:=Any.strings_Index_one lays143 s c w
def Tryz.lays144_ren:Go.Shelf.Ren:=⟨fun|144=>186|143=>213|219=>135|217=>172|225=>173|224=>174|267=>175|266=>207|314=>208|n=>n,fun|9=>9|4=>4|3=>3|5=>5|46=>161|146=>196|51=>195|n=>n,fun|1=>0|n=>n⟩
theorem lays144:Go.Proofs.Lays.n144 prog Tryz.lays144_ren:={
 mixed:=by kernel_rfl
 f143:=func213.trans (congrArg some (by kernel_rfl))
 f144:=func186.trans (congrArg some (by kernel_rfl))
 f217:=func172.trans (congrArg some (by kernel_rfl))
 f219:=func135.trans (congrArg some (by kernel_rfl))
 f224:=func174.trans (congrArg some (by kernel_rfl))
 f225:=func173.trans (congrArg some (by kernel_rfl))
 f266:=func207.trans (congrArg some (by kernel_rfl))
 f267:=func175.trans (congrArg some (by kernel_rfl))
 f314:=func208.trans (congrArg some (by kernel_rfl))
 t3:=underlying3
 a3:=isAgg3
 z3:=sizeOf3
 v3:=zeroValue3
 t4:=underlying4
 a4:=isAgg4
 z4:=sizeOf4
 v4:=zeroValue4
 t5:=underlying5
 a5:=isAgg5
 z5:=sizeOf5
 v5:=zeroValue5
 t9:=underlying9
 a9:=isAgg9
 z9:=sizeOf9
 v9:=zeroValue9
 t46:=underlying161
 a46:=isAgg161
 z46:=sizeOf161
 v46:=zeroValue161
 t51:=underlying195
 a51:=isAgg195
 z51:=sizeOf195
 v51:=zeroValue195
 t146:=underlying196
 a146:=isAgg196
 z146:=sizeOf196
 v146:=zeroValue196
 g1:=by kernel_rfl }
open Go.RowKit Go.Lib in
theorem Tryz.strings_Contains_one(s:ByteArray)(c:UInt8)(w:World) :
  Calls prog 186 #[.string s,.string ⟨#[c]⟩] w fun e w'=>e=.returned (.bool (decide (0<=Lib.indexByte s.data.toList c)))/\w'=w:=Any.strings_Contains_one lays144 s c w
def Tryz.lays145_ren:Go.Shelf.Ren:=⟨fun|145=>44|220=>92|219=>135|217=>172|225=>173|224=>174|267=>175|266=>207|314=>208|n=>n,fun|9=>9|4=>4|59=>60|3=>3|5=>5|46=>161|146=>196|51=>195|n=>n,fun|1=>0|n=>n⟩
theorem lays145:Go.Proofs.Lays.n145 prog Tryz.lays145_ren:={
 mixed:=by kernel_rfl
 f145:=func44.trans (congrArg some (by kernel_rfl))
 f217:=func172.trans (congrArg some (by kernel_rfl))
 f219:=func135.trans (congrArg some (by kernel_rfl))
 f220:=func92.trans (congrArg some (by kernel_rfl))
 f224:=func174.trans (congrArg some (by kernel_rfl))
 f225:=func173.trans (congrArg some (by kernel_rfl))
 f266:=func207.trans (congrArg some (by kernel_rfl))
 f267:=func175.trans (congrArg some (by kernel_rfl))
 f314:=func208.trans (congrArg some (by kernel_rfl))
 t3:=underlying3
 a3:=isAgg3
 z3:=sizeOf3
 v3:=zeroValue3
 t4:=underlying4
 a4:=isAgg4
 z4:=sizeOf4
 v4:=zeroValue4
 t5:=underlying5
 a5:=isAgg5
 z5:=sizeOf5
 v5:=zeroValue5
 t9:=underlying9
 a9:=isAgg9
 z9:=sizeOf9
 v9:=zeroValue9
 t46:=underlying161
 a46:=isAgg161
 z46:=sizeOf161
 v46:=zeroValue161
 t51:=underlying195
 a51:=isAgg195
 z51:=sizeOf195
 v51:=zeroValue195
 t59:=underlying60
 a59:=isAgg60
 z59:=sizeOf60
 v59:=zeroValue60
 t146:=underlying196
 a146:=isAgg196
 z146:=sizeOf196
 v146:=zeroValue196
 g1:=by kernel_rfl }
open Go.RowKit Go.Lib in
theorem Tryz.strings_Cut(s sep:ByteArray)(m:Int)(w:World)(hs:s.size<4294967281)(hm:w.cell? ⟨0,0,none⟩=some (.int .i64 m)) :
  Calls prog 44 #[.string s,.string sep] w fun e w'=>e=.returned (.tuple #[.string ⟨(Lib.cut s.data.toList sep.data.toList).1.toArray⟩,.string ⟨(Lib.cut s.data.toList sep.data.toList).2.1.toArray⟩,.bool (Lib.cut s.data.toList sep.data.toList).2.2])/\∃n,w'=w.drewN n:=Any.strings_Cut lays145 s sep m w hs hm
def Tryz.lays138_ren:Go.Shelf.Ren:=⟨fun|138=>188|195=>214|218=>215|143=>213|219=>135|217=>172|225=>173|224=>174|267=>175|266=>207|314=>208|n=>n,fun|9=>9|3=>3|4=>4|5=>5|0=>0|46=>161|146=>196|51=>195|n=>n,fun|1=>0|n=>n⟩
theorem lays138:Go.Proofs.Lays.n138 prog Tryz.lays138_ren:={
 mixed:=by kernel_rfl
 f138:=func188.trans (congrArg some (by kernel_rfl))
 f143:=func213.trans (congrArg some (by kernel_rfl))
 f195:=func214.trans (congrArg some (by kernel_rfl))
 f217:=func172.trans (congrArg some (by kernel_rfl))
 f218:=func215.trans (congrArg some (by kernel_rfl))
 f219:=func135.trans (congrArg some (by kernel_rfl))
 f224:=func174.trans (congrArg some (by kernel_rfl))
 f225:=func173.trans (congrArg some (by kernel_rfl))
 f266:=func207.trans (congrArg some (by kernel_rfl))
 f267:=func175.trans (congrArg some (by kernel_rfl))
 f314:=func208.trans (congrArg some (by kernel_rfl))
 t0:=underlying0
 a0:=isAgg0
 z0:=sizeOf0
 v0:=zeroValue0
 t3:=underlying3
 a3:=isAgg3
 z3:=sizeOf3
 v3:=zeroValue3
 t4:=underlying4
 a4:=isAgg4
 z4:=sizeOf4
 v4:=zeroValue4
 t5:=underlying5
 a5:=isAgg5
 z5:=sizeOf5
 v5:=zeroValue5
 t9:=underlying9
 a9:=isAgg9
 z9:=sizeOf9
 v9:=zeroValue9
 t46:=underlying161
 a46:=isAgg161
 z46:=sizeOf161
 v46:=zeroValue161
 t51:=underlying195
 a51:=isAgg195
 z51:=sizeOf195
 v51:=zeroValue195
 t146:=underlying196
 a146:=isAgg196
 z146:=sizeOf196
 v146:=zeroValue196
 g1:=by kernel_rfl }
open Go.RowKit Go.Lib in
theorem Tryz.strings_Count_one(s:ByteArray)(c:UInt8)(w:World) :
  Calls prog 188 #[.string s,.string ⟨#[c]⟩] w fun e w'=>e=.returned (.int .i64 (Lib.countByte s.data.toList c))/\w'=w:=Any.strings_Count_one lays138 s c w
def Tryz.lays148_ren:Go.Shelf.Ren:=⟨fun|148=>91|222=>133|223=>134|269=>171|n=>n,fun|9=>9|3=>3|4=>4|5=>5|146=>196|51=>195|46=>161|n=>n,fun|n=>n⟩
theorem lays148:Go.Proofs.Lays.n148 prog Tryz.lays148_ren:={
 mixed:=by kernel_rfl
 f148:=func91.trans (congrArg some (by kernel_rfl))
 f222:=func133.trans (congrArg some (by kernel_rfl))
 f223:=func134.trans (congrArg some (by kernel_rfl))
 f269:=func171.trans (congrArg some (by kernel_rfl))
 t3:=underlying3
 a3:=isAgg3
 z3:=sizeOf3
 v3:=zeroValue3
 t4:=underlying4
 a4:=isAgg4
 z4:=sizeOf4
 v4:=zeroValue4
 t5:=underlying5
 a5:=isAgg5
 z5:=sizeOf5
 v5:=zeroValue5
 t9:=underlying9
 a9:=isAgg9
 z9:=sizeOf9
 v9:=zeroValue9
 t46:=underlying161
 a46:=isAgg161
 z46:=sizeOf161
 v46:=zeroValue161
 t51:=underlying195
 a51:=isAgg195
 z51:=sizeOf195
 v51:=zeroValue195
 t146:=underlying196
 a146:=isAgg196
 z146:=sizeOf196
 v146:=zeroValue196 }
open Go.RowKit Go.Lib in
theorem Tryz.strings_LastIndex_one(s sub:ByteArray)(h1:sub.size=1)(hs:s.size<4611686018427387904)(w:World) :
  Calls prog 91 #[.string s,.string sub] w fun e w'=>e=.returned (.int .i64 (Lib.lastIndexByte s ((sub[0]'(by omega)).toNat:Int)))/\w'=w:=Any.strings_LastIndex_one lays148 s sub h1 hs w
def Tryz.lays99_ren:Go.Shelf.Ren:=⟨fun|99=>142|206=>177|n=>n,fun|9=>9|4=>4|3=>3|n=>n,fun|n=>n⟩
theorem lays99:Go.Proofs.Lays.n99 prog Tryz.lays99_ren:={
 mixed:=by kernel_rfl
 f99:=func142.trans (congrArg some (by kernel_rfl))
 f206:=func177.trans (congrArg some (by kernel_rfl))
 t3:=underlying3
 a3:=isAgg3
 z3:=sizeOf3
 v3:=zeroValue3
 t4:=underlying4
 a4:=isAgg4
 z4:=sizeOf4
 v4:=zeroValue4
 t9:=underlying9
 a9:=isAgg9
 z9:=sizeOf9
 v9:=zeroValue9 }
open Go.RowKit Go.Lib in
theorem Tryz.strings_HasPrefix(s p:ByteArray)(w:World) :
  Calls prog 142 #[.string s,.string p] w fun e w'=>e=.returned (.bool (Lib.hasPrefix s.data.toList p.data.toList))/\w'=w:=Any.strings_HasPrefix lays99 s p w
def Tryz.lays102_ren:Go.Shelf.Ren:=⟨fun|102=>100|209=>140|207=>176|n=>n,fun|9=>9|4=>4|3=>3|n=>n,fun|n=>n⟩
theorem lays102:Go.Proofs.Lays.n102 prog Tryz.lays102_ren:={
 mixed:=by kernel_rfl
 f102:=func100.trans (congrArg some (by kernel_rfl))
 f207:=func176.trans (congrArg some (by kernel_rfl))
 f209:=func140.trans (congrArg some (by kernel_rfl))
 t3:=underlying3
 a3:=isAgg3
 z3:=sizeOf3
 v3:=zeroValue3
 t4:=underlying4
 a4:=isAgg4
 z4:=sizeOf4
 v4:=zeroValue4
 t9:=underlying9
 a9:=isAgg9
 z9:=sizeOf9
 v9:=zeroValue9 }
open Go.RowKit Go.Lib in
theorem Tryz.strings_TrimSuffix(s p:ByteArray)(w:World)(hs:s.size<=9223372036854775807) :
  Calls prog 100 #[.string s,.string p] w fun e w'=>e=.returned (.string ⟨(Lib.trimSuffix s.data.toList p.data.toList).toArray⟩)/\w'=w:=Any.strings_TrimSuffix lays102 s p w hs
def Tryz.lays146_ren:Go.Shelf.Ren:=⟨fun|146=>180|221=>210|268=>231|138=>188|143=>213|195=>214|197=>243|218=>215|219=>135|260=>247|217=>172|225=>173|224=>174|267=>175|266=>207|314=>208|n=>n,fun|9=>9|31=>28|3=>3|4=>4|0=>0|105=>255|21=>21|5=>5|46=>161|119=>263|139=>266|138=>265|146=>196|51=>195|n=>n,fun|1=>0|3=>3|4=>4|n=>n⟩
theorem lays146:Go.Proofs.Lays.n146 prog Tryz.lays146_ren:={
 mixed:=by kernel_rfl
 f138:=func188.trans (congrArg some (by kernel_rfl))
 f143:=func213.trans (congrArg some (by kernel_rfl))
 f146:=func180.trans (congrArg some (by kernel_rfl))
 f195:=func214.trans (congrArg some (by kernel_rfl))
 f197:=func243.trans (congrArg some (by kernel_rfl))
 f217:=func172.trans (congrArg some (by kernel_rfl))
 f218:=func215.trans (congrArg some (by kernel_rfl))
 f219:=func135.trans (congrArg some (by kernel_rfl))
 f221:=func210.trans (congrArg some (by kernel_rfl))
 f224:=func174.trans (congrArg some (by kernel_rfl))
 f225:=func173.trans (congrArg some (by kernel_rfl))
 f260:=func247.trans (congrArg some (by kernel_rfl))
 f266:=func207.trans (congrArg some (by kernel_rfl))
 f267:=func175.trans (congrArg some (by kernel_rfl))
 f268:=func231.trans (congrArg some (by kernel_rfl))
 f314:=func208.trans (congrArg some (by kernel_rfl))
 t0:=underlying0
 a0:=isAgg0
 z0:=sizeOf0
 v0:=zeroValue0
 t3:=underlying3
 a3:=isAgg3
 z3:=sizeOf3
 v3:=zeroValue3
 t4:=underlying4
 a4:=isAgg4
 z4:=sizeOf4
 v4:=zeroValue4
 t5:=underlying5
 a5:=isAgg5
 z5:=sizeOf5
 v5:=zeroValue5
 t9:=underlying9
 a9:=isAgg9
 z9:=sizeOf9
 v9:=zeroValue9
 t21:=underlying21
 a21:=isAgg21
 z21:=sizeOf21
 v21:=zeroValue21
 t31:=underlying28
 a31:=isAgg28
 z31:=sizeOf28
 v31:=zeroValue28
 t46:=underlying161
 a46:=isAgg161
 z46:=sizeOf161
 v46:=zeroValue161
 t51:=underlying195
 a51:=isAgg195
 z51:=sizeOf195
 v51:=zeroValue195
 t105:=underlying255
 a105:=isAgg255
 z105:=sizeOf255
 v105:=zeroValue255
 t119:=underlying263
 a119:=isAgg263
 z119:=sizeOf263
 t138:=underlying265
 a138:=isAgg265
 z138:=sizeOf265
 v138:=zeroValue265
 t139:=underlying266
 a139:=isAgg266
 z139:=sizeOf266
 v139:=zeroValue266
 t146:=underlying196
 a146:=isAgg196
 z146:=sizeOf196
 v146:=zeroValue196
 g1:=by kernel_rfl
 g3:=by kernel_rfl
 g4:=by kernel_rfl }
open Go.RowKit Go.Lib in
theorem Tryz.strings_Split(s sep:ByteArray)(m:Int)(w:World)(hs:s.size<4294967281)(hm:w.cell? ⟨0,0,none⟩=some (.int .i64 m))(h1:1<=sep.size) :
  Calls prog 180 #[.string s,.string sep] w fun e w' =>
   e=.returned (.slice (some ⟨w.heap.size,0,none⟩) (Lib.countB s sep+1) (Lib.countB s sep+1))/\w'=w.alloc (.cells ((Lib.splitB sep 0 (Lib.countB s sep) s).map Value.string).toArray 9):=Any.strings_Split lays146 (by kernel_rfl) s sep m w hs hm h1
def Tryz.lays229_ren:Go.Shelf.Ren:=⟨fun|229=>160|n=>n,fun|9=>9|40=>188|31=>28|152=>214|3=>3|0=>0|4=>4|21=>21|154=>216|n=>n,fun|n=>n⟩
theorem lays229:Go.Proofs.Lays.n229 prog Tryz.lays229_ren:={
 mixed:=by kernel_rfl
 f229:=func160.trans (congrArg some (by kernel_rfl))
 t0:=underlying0
 a0:=isAgg0
 z0:=sizeOf0
 v0:=zeroValue0
 t3:=underlying3
 a3:=isAgg3
 z3:=sizeOf3
 v3:=zeroValue3
 t4:=underlying4
 a4:=isAgg4
 z4:=sizeOf4
 v4:=zeroValue4
 t9:=underlying9
 a9:=isAgg9
 z9:=sizeOf9
 v9:=zeroValue9
 t21:=underlying21
 a21:=isAgg21
 z21:=sizeOf21
 v21:=zeroValue21
 t31:=underlying28
 a31:=isAgg28
 z31:=sizeOf28
 v31:=zeroValue28
 t40:=underlying188
 a40:=isAgg188
 z40:=sizeOf188
 v40:=zeroValue188
 t152:=underlying214
 a152:=isAgg214
 z152:=sizeOf214
 v152:=zeroValue214
 t154:=underlying216
 a154:=isAgg216
 z154:=sizeOf216
 v154:=zeroValue216 }
open Go.RowKit Go.Lib in
theorem Tryz.strings_FieldsFunc(g:Nat)(lb:Array Value)(eg:∀args w,(callFunc g args).run prog w=.ok (.enter g args) w)(p:Nat->Bool)(s:ByteArray)(w:World)(hs:s.size<=4294967296)(hp:PredAt prog g lb encR p w) :
  Calls prog 160 #[.string s,.func (.func g) #[] lb] w fun e w'=>∃A,e=.returned (.slice (some ⟨A,0,none⟩) (Lib.goFieldsP p s).length (Lib.goFieldsP p s).length)/\w.heap.size<=A/\
   w'.ownsRow w.heap.size 9 1 (.slice (some ⟨A,0,none⟩) (Lib.goFieldsP p s).length (Lib.goFieldsP p s).length) (Lib.goFieldsP p s).length ((Lib.goFieldsP p s).map Value.string)/\Below w.heap.size w w':=Any.strings_FieldsFunc lays229 g lb eg p s w hs hp (by kernel_rfl) (by kernel_rfl)
def Tryz.lays107_ren:Go.Shelf.Ren:=⟨fun|107=>116|108=>162|n=>n,fun|28=>26|3=>3|4=>4|0=>0|n=>n,fun|n=>n⟩
theorem lays107:Go.Proofs.Lays.n107 prog Tryz.lays107_ren:={
 mixed:=by kernel_rfl
 f107:=func116.trans (congrArg some (by kernel_rfl))
 f108:=func162.trans (congrArg some (by kernel_rfl))
 t0:=underlying0
 a0:=isAgg0
 z0:=sizeOf0
 v0:=zeroValue0
 t3:=underlying3
 a3:=isAgg3
 z3:=sizeOf3
 v3:=zeroValue3
 t4:=underlying4
 a4:=isAgg4
 z4:=sizeOf4
 v4:=zeroValue4
 t28:=underlying26
 a28:=isAgg26
 z28:=sizeOf26
 v28:=zeroValue26 }
open Go.Lib in
theorem Tryz.slices_Contains_int(b off n c:Nat)(zs:List Int)(x:Int)(w:World)(hz:n<=zs.length)(hbig:n<=9223372036854775807)(hc:∀j,j<zs.length->w.cell? ⟨b,off+j,none⟩=some (.int .i64 (zs.getD j 0))) :
  Calls prog 116 #[.slice (some ⟨b,off,none⟩) n c,.int .i64 x] w fun e w'=>e=.returned (.bool ((zs.take n).contains x))/\w'=w:=Any.slices_Contains_int lays107 b off n c zs x w hz hbig hc
open Go.Lib in
theorem Tryz.slices_Contains_int_empty(a:Option Addr)(c:Nat)(x:Int)(w:World) :
  Calls prog 116 #[.slice a 0 c,.int .i64 x] w fun e w'=>e=.returned (.bool false)/\w'=w:=Any.slices_Contains_int_empty lays107 a c x w
def Tryz.lays109_ren:Go.Shelf.Ren:=⟨fun|109=>67|n=>n,fun|31=>28|9=>9|3=>3|0=>0|4=>4|n=>n,fun|n=>n⟩
theorem lays109:Go.Proofs.Lays.n109 prog Tryz.lays109_ren:={
 mixed:=by kernel_rfl
 f109:=func67.trans (congrArg some (by kernel_rfl))
 t0:=underlying0
 a0:=isAgg0
 z0:=sizeOf0
 v0:=zeroValue0
 t3:=underlying3
 a3:=isAgg3
 z3:=sizeOf3
 v3:=zeroValue3
 t4:=underlying4
 a4:=isAgg4
 z4:=sizeOf4
 v4:=zeroValue4
 t9:=underlying9
 a9:=isAgg9
 z9:=sizeOf9
 v9:=zeroValue9
 t31:=underlying28
 a31:=isAgg28
 z31:=sizeOf28
 v31:=zeroValue28 }
open Go.Lib in
theorem Tryz.slices_Index_string(b off n c:Nat)(zs:List ByteArray)(x:ByteArray)(w:World)(hz:n<=zs.length)(hbig:n<=9223372036854775807)(hc:∀j,j<zs.length->w.cell? ⟨b,off+j,none⟩=some (.string (zs.getD j ByteArray.empty))) :
  Calls prog 67 #[.slice (some ⟨b,off,none⟩) n c,.string x] w fun e w'=>e=.returned (.int .i64 (Lib.idxOfS (zs.take n) x))/\w'=w:=Any.slices_Index_string lays109 b off n c zs x w hz hbig hc
open Go.Lib in
theorem Tryz.slices_Index_string_empty(a:Option Addr)(c:Nat)(x:ByteArray)(w:World) :
  Calls prog 67 #[.slice a 0 c,.string x] w fun e w'=>e=.returned (.int .i64 (Lib.idxOfS [] x))/\w'=w:=Any.slices_Index_string_empty lays109 a c x w
def Tryz.lays110_ren:Go.Shelf.Ren:=⟨fun|110=>146|109=>67|n=>n,fun|31=>28|9=>9|4=>4|3=>3|0=>0|n=>n,fun|n=>n⟩
theorem lays110:Go.Proofs.Lays.n110 prog Tryz.lays110_ren:={
 mixed:=by kernel_rfl
 f109:=func67.trans (congrArg some (by kernel_rfl))
 f110:=func146.trans (congrArg some (by kernel_rfl))
 t0:=underlying0
 a0:=isAgg0
 z0:=sizeOf0
 v0:=zeroValue0
 t3:=underlying3
 a3:=isAgg3
 z3:=sizeOf3
 v3:=zeroValue3
 t4:=underlying4
 a4:=isAgg4
 z4:=sizeOf4
 v4:=zeroValue4
 t9:=underlying9
 a9:=isAgg9
 z9:=sizeOf9
 v9:=zeroValue9
 t31:=underlying28
 a31:=isAgg28
 z31:=sizeOf28
 v31:=zeroValue28 }
open Go.Lib in
theorem Tryz.slices_Contains_string(b off n c:Nat)(zs:List ByteArray)(x:ByteArray)(w:World)(hz:n<=zs.length)(hbig:n<=9223372036854775807)(hc:∀j,j<zs.length->w.cell? ⟨b,off+j,none⟩=some (.string (zs.getD j ByteArray.empty))) :
  Calls prog 146 #[.slice (some ⟨b,off,none⟩) n c,.string x] w fun e w'=>e=.returned (.bool (Lib.containsS (zs.take n) x))/\w'=w:=Any.slices_Contains_string lays110 b off n c zs x w hz hbig hc
open Go.Lib in
theorem Tryz.slices_Contains_string_empty(a:Option Addr)(c:Nat)(x:ByteArray)(w:World) :
  Calls prog 146 #[.slice a 0 c,.string x] w fun e w'=>e=.returned (.bool false)/\w'=w:=Any.slices_Contains_string_empty lays110 a c x w
def Tryz.lays113_ren:Go.Shelf.Ren:=⟨fun|113=>31|n=>n,fun|28=>26|3=>3|4=>4|9=>9|20=>20|0=>0|n=>n,fun|n=>n⟩
theorem lays113:Go.Proofs.Lays.n113 prog Tryz.lays113_ren:={
 mixed:=by kernel_rfl
 f113:=func31.trans (congrArg some (by kernel_rfl))
 t0:=underlying0
 a0:=isAgg0
 z0:=sizeOf0
 v0:=zeroValue0
 t3:=underlying3
 a3:=isAgg3
 z3:=sizeOf3
 v3:=zeroValue3
 t4:=underlying4
 a4:=isAgg4
 z4:=sizeOf4
 v4:=zeroValue4
 t9:=underlying9
 a9:=isAgg9
 z9:=sizeOf9
 v9:=zeroValue9
 t20:=underlying20
 a20:=isAgg20
 z20:=sizeOf20
 v20:=zeroValue20
 t28:=underlying26
 a28:=isAgg26
 z28:=sizeOf26
 v28:=zeroValue26 }
open Go.Lib in
theorem Tryz.slices_Max_int(b off n c:Nat)(zs:List Int)(w:World)(hn:0<n)(hz:n<=zs.length)(hbig:n<=9223372036854775807)(hc:∀j,j<zs.length->w.cell? ⟨b,off+j,none⟩=some (.int .i64 (zs.getD j 0))) :
  Calls prog 31 #[.slice (some ⟨b,off,none⟩) n c] w fun e w'=>e=.returned (.int .i64 (Lib.maxOf (zs.take n)))/\w'=w:=Any.slices_Max_int lays113 b off n c zs w hn hz hbig hc
def Tryz.laysSlE041_f144_ren:Go.Shelf.Ren:=⟨fun|41=>144|n=>n,fun|22=>28|23=>9|4=>4|n=>n,fun|n=>n⟩
theorem Tryz.laysSlE041_f144:Go.Proofs.SlLaysE0.n41 prog Tryz.laysSlE041_f144_ren:={
 mixed:=by kernel_rfl
 f41:=⟨Tryz.f144.name,by decide,func144.trans (congrArg some (by kernel_rfl))⟩
 t4:=underlying4
 a4:=isAgg4
 z4:=sizeOf4
 v4:=zeroValue4
 t22:=underlying28
 a22:=isAgg28
 z22:=sizeOf28
 v22:=zeroValue28 }
open Go.RowKit Go.Lib in
theorem Tryz.slices_Clone(i0:TypeInfo)(z:Value)(size bytes:Nat)(hi:prog.info? 9=some i0)(hz0:i0.zero=some z)(hz1:i0.size=size)(hz2:i0.bytes=bytes)(hzs:z.cells.size=size)(hsz:0<size)(z23:∀w,(Go.sizeOf 9).run prog w=.ok size w)(b off n c:Nat)(news:List Value)(w:World)(hl:news.length=n*size)(hn:n<=maxLen)(hbig:n*bytes<=140737488355328)(hc:∀j u,news[j]?=some u->w.cell? ⟨b,off+j,none⟩=some u)(h1:∀u∈news,u.oneCell'=true) :
  Calls prog 144 #[.slice (some ⟨b,off,none⟩) n c] w fun e w'=>∃v',e=.returned v'/\w'.ownsRow w.heap.size 9 size v' n news/\v'≠.slice none 0 0/\Below w.heap.size w w':=AnyE.slices_Clone Tryz.laysSlE041_f144 i0 z size bytes hi hz0 hz1 hz2 hzs hsz z23 b off n c news w hl hn hbig hc h1
end Go.Proofs
namespace Go.Proofs.YtgoooebfhdbbkaaGreatDoor
open Go.Proofs.Tryz
open Go Go.RowKit
set_option linter.unusedVariables false
set_option linter.unusedSimpArgs false
set_option maxHeartbeats 16000000
set_option maxRecDepth 100000
theorem ZcW{w:World}{base k:Nat}{e:TypeId}{g n cap:Nat}{xs:List Value}(h:w.ownsRow base e k (.slice (some ⟨g,0,none⟩) n cap) n xs)(j:Nat)(hj:j<xs.length)(y:Value) :
  (w.setCell ⟨g,j,none⟩ y).ownsRow base e k (.slice (some ⟨g,0,none⟩) n cap) n (xs.set j y)/\(∃x,w.cell? ⟨g,j,none⟩=some x)/\w.frozen? ⟨g,j,none⟩=false/\base<=g/\g<w.heap.size/\(∃s,w.shape? g=some (e,s)):=by
 have hl:xs.length=n*k:=h.1;rcases h.2 with ⟨h0,_⟩|⟨g',cap',cur,hv,hb,hg,hnc,hcm,hcs,ht⟩
 ·cases h0
 ·injection hv with e1 e2 e3
  injection e1 with e1
  injection e1 with e1 _ _
  subst e1;subst e3;have hsz:j<cur.size:=by
   have:=congrArg List.length ht
   rw [List.length_take,Array.length_toList] at this;omega
  refine ⟨⟨by simp [hl],.inr ⟨g,cap,cur.setIfInBounds j y,rfl,hb,heap_setCell hg j y,hnc,hcm,by simpa using hcs,?_⟩⟩,⟨cur[j],by simp [World.cell?,hg,hsz]⟩,by simp [World.frozen?,hg],hb,Zg hg,⟨cur.size,by simp [World.shape?,hg]⟩⟩;rw [Array.toList_setIfInBounds,List.take_set,ht]
theorem Zd4:(prog.info? 9).map (fun i=>(i.zero,i.size,i.bytes))=some (some (.string ⟨#[]⟩),1,16):=k_
def ZpN(w:World)(B:Nat)(k:ZT)(words:List Str):Prop:=k.wn=words.length/\w.ownsRow B 9 1 (.slice k.wa k.wn k.wc) k.wn (Ze words)
theorem Zqq{w w':World}{P B B' k n:Nat}{e e':TypeId}{v:Value}{xs:List Value}(h:w.ownsRow B' e' k v n xs)(hf:FrB P B e w w')(he:e'≠e)(hP:v.ownBlock≠some P):w'.ownsRow B' e' k v n xs:=by
 refine ⟨h.1,?_⟩;rcases h.2 with hn|⟨g,cap,cur,rfl,hg,hgg,rest⟩
 ·exact .inl hn
 ·refine .inr ⟨g,cap,cur,rfl,hg,?_,rest⟩
  exact hf.heap hgg (fun q=>hP (by simp [Value.ownBlock,q])) he
theorem Zoo(P B:Nat)(sec:Str)(kinds:Int)(kvs:List ZT)(name:Str)(WB wc:Nat)(words:List Str)(w:World)(hG:XU w P B sec kinds kvs)(hPB:P<B)(hBw:B<=w.heap.size)
  (hW:w.heap[WB]?=some (.cells (Ze words).toArray 9 (0,0))) (hl:words.length<=100) (hk:kvs.length<=90) :
  Calls prog 103 #[.pointer (some ⟨P,0,none⟩),.string ⟨name.toArray⟩,.slice (some ⟨WB,0,none⟩) words.length wc] w fun e w'=>e=.returned (.tuple #[])/\∃k:ZT,(k.sec=sec/\k.name=name/\k.form=10/\k.list=false/\k.kinds=kinds)/\ZpN w' w.heap.size k words/\XU w' P B sec kinds (kvs++[k])/\FrB P B 66 w w':=by
 obtain ⟨i0,hi0,hz0,hz1,hz2⟩:=info_parts Zd4;have hb1:=(Below.refl w.heap.size w).alloc l_ (.cells #[.string ⟨name.toArray⟩] 9);have HS:=h_ (Zi9 P B sec kinds 10 false kvs w.heap.size 1 [name] (w.alloc (.cells #[.string ⟨name.toArray⟩] 9)) (hG.below hb1) hPB (Nat.le_trans hBw hb1.size) (heap_alloc_new w _) s_ o_);have HW:=h_ hW;have HWP:=h_ (show WB≠P from by rintro rfl;obtain ⟨ga,gc,h1,_⟩:=hG.ex;rw [hW] at h1;simp at h1);have HB1:=h_ hb1;have HW1:=h_ (Za hW hb1);clear hG hW hb1;go_enter func103,ntmps103;go_wp2_with fail;refine HS.out.mono ?_;rintro e w2 ⟨rfl,hg2,hf2⟩;have hf0:FrB P B 66 w w2:=FrB.trans (show FrB P B 66 w (w.alloc (.cells #[.string ⟨name.toArray⟩] 9)) from Fr.of_below HB1.out _) hf2;have HF2:=h_ hf0;have HW2:=h_ (hf2.heap HW1.out HWP.out d_);obtain ⟨ga,gc,hbx,hown⟩:=hg2.ex;have HBX:=h_ hbx;have HOW:=h_ hown;have hln:(kvs++[name].map (YM sec kinds 10 false)).length=kvs.length+1:=s_;rw [hln] at HBX HOW;obtain ⟨g,gc',e3,hcell,hBg,hglt⟩:=Zhk HOW.out o_;injection e3 with e3 _ e4
 subst e3;subst e4;have HC:=h_ (fun V (h:V.os=V.os\/True) (hc:∀j u,(Ze words)[j]?=some u->V.cell? ⟨WB,0+j,none⟩=some u)=>Tryz.slices_Clone i0 (.string ⟨#[]⟩) 1 16 hi0 hz0 hz1 hz2 n19_ d_ (fun w=>by rfl) WB 0 words.length wc (Ze words) V (by simp [Ze]) n20_ o_ hc (Zb3 _));have HST:=h_ (ZcW HOW.out (kvs.length*6+5) (by rw [HOW.out.1];omega));have hflat:Zy Zv (kvs++[name].map (YM sec kinds 10 false))=Zy Zv kvs++Zv (YM sec kinds 10 false name):=by rw [ZH];simp [Zy]
 have HFL:=h_ hflat;have hgP:g≠P:=o_;have i1:(kvs.length:Int)<=90:=o_;have i2:IntKind.i64.wrap (kvs.length:Int)=(kvs.length:Int):=IntWalk.i64_in _ o_;clear hf2 hf0 hg2 hbx hown hcell hln hflat HS HW1;go_wp2_with fail;refine Zi (S:=fun V=>V.heap[P]?=some (.cells #[.string ⟨sec.toArray⟩,.int .i64 kinds,.slice (some ⟨g,0,none⟩) (kvs.length+1) gc] 141 (0,0))/\Below w2.heap.size w2 V) 12 k_ k_ ⟨HBX.out,Zb ⟨1,rfl⟩⟩ (fun hHeld=>?_);refine u_ ?_;(iterate 11 refine dN_ 0 (gT_ rfl) (fun W hW=>by obtain ⟨q0,q1,q2⟩:=cells3 hW.1;clear hW;go_simp;rfl) (u_ ?_));refine Zq (i:=11) (gT_ rfl) k_ k_ (fun K hK=>?_);clear hHeld;rw [if_pos n19_];go_simp;refine (HC.out _ (.inr trivial) (fun j u hj=>by rw [Nat.zero_add];show w2.cell? ⟨WB,j,none⟩=some u;rw [(rd HW2.out).1 j,List.getElem?_toArray];exact hj)).mono ?_;rintro e w3 ⟨v3,rfl,ho3,hne3,hb3⟩;obtain ⟨wa3,wc3,rfl⟩:=ownsRow_form ho3;have HB3:=h_ ((show Below w2.heap.size w2 w2.drew from Zb ⟨1,rfl⟩).trans hb3);have HO3:=h_ (show w3.ownsRow w2.heap.size 9 1 (.slice wa3 words.length wc3) words.length (Ze words) from ho3);clear ho3 hne3 hb3;refine hK.out _ _ ⟨Za HBX.out HB3.out,HB3.out⟩ (fun hHeld=>?_);clear hK K;refine u_ ?_;refine Zr k_ ?_;clear hHeld;obtain ⟨hset,⟨ox,hox⟩,hfz,-,-,hshape⟩:=ZcW (Zp HOW.out HB3.out) (kvs.length*6+5) (by rw [HOW.out.1];omega) (.slice wa3 words.length wc3);obtain ⟨sh,hshape⟩:=hshape;go_wp2_with fail;refine ⟨rfl,_,results_none rfl _ _ _,rfl,⟨sec,name,10,false,kinds,wa3,words.length,wc3⟩,⟨rfl,rfl,rfl,rfl,rfl⟩,⟨rfl,?_⟩,⟨some ⟨g,0,none⟩,gc,?_,?_⟩,?_⟩
 ·have hne:(Value.slice wa3 words.length wc3).ownBlock≠some g:=by
   intro q
   have:=(World.ownsRow.lt HO3.out g q).1
   omega
  have h1:(w3.setCell ⟨g,kvs.length*6+5,none⟩ (.slice wa3 words.length wc3)).ownsRow w2.heap.size 9 1 (.slice wa3 words.length wc3) words.length (Ze words):=by
   refine ⟨HO3.out.1,?_⟩;rcases HO3.out.2 with hn|⟨g2,cp,cur,hv,hg2,hgg,rest⟩
   ·exact .inl hn
   ·refine .inr ⟨g2,cp,cur,hv,hg2,Zk hgg (a:=⟨g,kvs.length*6+5,none⟩) (by show g2≠g;omega) _,rest⟩
  refine ⟨h1.1,?_⟩;rcases h1.2 with hn|⟨g2,cp,cur,hv,hg2,hgg,rest⟩
  ·exact .inl hn
  ·exact .inr ⟨g2,cp,cur,hv,by have:=HF2.out.size;omega,hgg,rest⟩
 ·rw [List.length_append]
  exact Zk (Za HBX.out HB3.out) (a:=⟨g,kvs.length*6+5,none⟩) (by show P≠g;omega) _
 ·have e1:(Zy Zv (kvs++[name].map (YM sec kinds 10 false))).set (kvs.length*6+5) (.slice wa3 words.length wc3)=Zy Zv (kvs++[⟨sec,name,10,false,kinds,wa3,words.length,wc3⟩]):=by
   rw [HFL.out,ZH,YX];have hlk:(Zy Zv kvs).length=kvs.length*6:=Xx (enc:=Zv) (k:=6) (fun _=>rfl) kvs;rw [List.set_append_right _ _ o_,hlk,show kvs.length*6+5-kvs.length*6=5 by omega];rfl
  have e2:(kvs++[(⟨sec,name,10,false,kinds,wa3,words.length,wc3⟩:ZT)]).length=kvs.length+1:=s_;rw [e1] at hset;rw [e2];exact hset
 ·have f3:FrB P B 66 w w3:=HF2.out.trans (show FrB P B 66 w2 w3 from Fr.of_below HB3.out _)
  refine Fr.setCell f3 (p:=⟨g,kvs.length*6+5,none⟩) (fun hgw=>.inr ⟨hBg,?_⟩) _;obtain ⟨cs,fz,hh⟩:=(ZaH HOW.out g rfl).2;by_cases hm:g=P\/(B<=g/\ZbX 66 w g)
  ·rcases hm with h|h
   ·omega
   ·exact h.2
  ·exact ⟨cs,fz,by rw [<-HF2.out.block g hgw hm];exact hh⟩
theorem Zdb{P:Program}{w:World}{ops:Array Oper}{rest:List Oper}{o:Oper}{a:Act}{Q:Exit->Act->World->Prop}(hw:Region.wanted o (yielded ops a.tmps)=true)(s x:Operand)(t t2:TypeId)
  (ho:o.op=.call { callee:=.builtin .append,args:=#[s,x],argTypes:=#[t,t2] }) {v xv v':Value} {w':World} (hr:(Builtin.append_ #[t,t2] o.type #[v,xv]).run P w=.ok v' w') (hs:a.eval s=v) (hx:a.eval x=xv)
  (h:wpList P ops Q rest (a.put o.dst v') w'):wpList P ops Q (o::rest) a w:=by
 refine wpList_step fun K hK=>?_
 rw [if_pos hw];unfold Oper.wp execOp;simp only [ho,resolve,invoke,builtin,Sem.run_bind,Sem.run_pure,Result.andThen_ok,List.map_toArray,List.map_cons,List.map_nil,hs,hx,hr];exact hK _ _ h
def Zp9(w:World)(l:List ZT)(e:Ending)(w':World):Prop:=∃v,e=.returned v/\w'.ownsRow w.heap.size 66 6 v l.length (Zy Zv l)/\Below w.heap.size w w'
theorem ZnM(n:Nat)(w:World)(hn:n<1073741824):Calls prog 145 #[.slice none 0 0,.int .i64 n] w fun e w'=>∃v,e=.returned v/\w'.ownsRow w.heap.size 66 6 v 0 []/\Below w.heap.size w w':=by
 obtain ⟨i0,hi0,hz0,hz1,hz2⟩:=info_parts ZdR;by_cases h0:n=0
 ·subst h0
  go_enter func145,ntmps145;go_wp2_with fail;go_ret;exact ⟨_,rfl,World.ownsRow_nil _ _ _ _,Below.refl _ _⟩
 ·have hrun:∀ty,(Builtin.append_ #[98,3] ty #[.slice none 0 0,.int .i64 (n:Int)]).run prog w=.ok (.slice (some ⟨w.heap.size,0,none⟩) (0+n) (grownCap w (0+n) 0 66)) (w.drew.alloc (.cells (#[]++Builtin.zeroCells (Value.agg #[.string ⟨#[]⟩,.string ⟨#[]⟩,.int .i64 0,.bool false,.int .i64 0,.slice none 0 0]).cells n++Builtin.zeroCells (Value.agg #[.string ⟨#[]⟩,.string ⟨#[]⟩,.int .i64 0,.bool false,.int .i64 0,.slice none 0 0]).cells (grownCap w (0+n) 0 66-(0+n))) 66)):=fun ty=>
   Lib.run_append_grow_zeros w 98 3 ty 66 i0 (.agg #[.string ⟨#[]⟩,.string ⟨#[]⟩,.int .i64 0,.bool false,.int .i64 0,.slice none 0 0]) .i64 .i64 underlying98 underlying3 hi0 hz0 none 0 0 [] (run_firstCells_none w.drew i0.size 0 0 0) n o_ o_ o_ o_ (by rw [hz2];omega) (growslice_fits o_ (by rw [hz2];omega))
  have hG:=grownCap_ge w (0+n) 0 66;have hM:=grownCap_le_maxLen w (0+n) 0 66 n20_;generalize grownCap w (0+n) 0 66=G at *;have HR:=h_ hrun;have hown:(w.drew.alloc (.cells (#[]++Builtin.zeroCells (Value.agg #[.string ⟨#[]⟩,.string ⟨#[]⟩,.int .i64 0,.bool false,.int .i64 0,.slice none 0 0]).cells n++Builtin.zeroCells (Value.agg #[.string ⟨#[]⟩,.string ⟨#[]⟩,.int .i64 0,.bool false,.int .i64 0,.slice none 0 0]).cells (G-(0+n))) 66)).ownsRow w.heap.size 66 6 (.slice (some ⟨w.heap.size,0,none⟩) 0 G) 0 []:=by
   refine ⟨rfl,.inr ⟨w.heap.size,G,_,rfl,l_,heap_alloc_new w.drew _,Nat.zero_le _,hM,?_,s_⟩⟩;simp [Builtin.zeroCells,Value.cells];omega
  have HO:=h_ hown;have HB:=h_ ((show Below w.heap.size w w.drew from Zb ⟨1,rfl⟩).alloc l_ (.cells (#[]++Builtin.zeroCells (Value.agg #[.string ⟨#[]⟩,.string ⟨#[]⟩,.int .i64 0,.bool false,.int .i64 0,.slice none 0 0]).cells n++Builtin.zeroCells (Value.agg #[.string ⟨#[]⟩,.string ⟨#[]⟩,.int .i64 0,.bool false,.int .i64 0,.slice none 0 0]).cells (G-(0+n))) 66));clear hrun hown;have h1:¬((n:Int)<0):=o_;have h2:wrap64 ((n:Int)-0)=(n:Int):=n49_;have h2b:wrap64 (n:Int)=(n:Int):=n49_;have h4:(n:Int)>0:=o_;have h5:(0:Int)<n:=h4;have hM2:(G:Int)<=9223372036854775807:=by unfold maxLen at hM;omega
  generalize hw1:w.drew.alloc _=w1 at *;clear hw1;go_enter func145,ntmps145;go_wp2_with (at_builtin;refine Zdb rfl _ _ 98 3 rfl (HR.out _) rfl rfl ?_);go_ret;exact ⟨_,rfl,HO.out,HB.out⟩
structure ZjT(w:World)(G:Nat)(ls:List (List ZT)):Prop where
 lt:G<w.heap.size
 row:∀k (h:k<ls.length),∃oa cap,w.cell? ⟨G,k,none⟩=some (.slice oa ls[k].length cap)/\ZB Zv 6 w oa ls[k]
theorem ZjT.below{w w':World}{G:Nat}{ls:List (List ZT)}(h:ZjT w G ls)(hb:Below w.heap.size w w'):ZjT w' G ls:=
 ⟨Nat.lt_of_lt_of_le h.lt hb.size,fun k hk=>by obtain ⟨oa,cap,h1,h2⟩:=h.row k hk;exact ⟨oa,cap,by rw [hb.cell h.lt];exact h1,h2.below hb⟩⟩
theorem Zcm(ls:List (List ZT))(k:Nat)(h:k<ls.length):(ls.take (k+1)).flatten=(ls.take k).flatten++ls[k]:=by
 rw [List.take_succ_eq_append_getElem h,List.flatten_append];simp
theorem ZdM(ls:List (List ZT))(k:Nat):(ls.take k).flatten.length<=ls.flatten.length:=by
 have:ls.flatten=(ls.take k).flatten++(ls.drop k).flatten:=by rw [<-List.flatten_append,List.take_append_drop]
 rw [this,List.length_append];omega
theorem Zjk(G cap0:Nat)(ls:List (List ZT))(w:World)(hr:ZjT w G ls)(hl:ls.length<1000)(hs:ls.flatten.length<1073741824) :
  Calls prog 104 #[.slice (some ⟨G,0,none⟩) ls.length cap0] w fun e w'=>Zp9 w ls.flatten e w':=by
 obtain ⟨i0,hi0,hz0,hz1,hz2⟩:=info_parts ZdR;have HR:=h_ hr;clear hr;have HS:=h_ hs;go_enter func104,ntmps104;go_wp2_with fail;go_loopg [3,11] (ls.length+1) (fun f n i wr=>∃k:Nat,k<=ls.length/\i=.int .i64 k/\n=.int .i64 ((ls.take k).flatten.length:Nat)/\ls.length-k<f/\w=wr)
 case atStart=>exact ⟨0,o_,rfl,s_,o_,rfl⟩
 case round=>
  obtain ⟨k,hk,rfl,rfl,hfu,rfl⟩:=hrel;by_cases hlt:k<ls.length
  ·obtain ⟨oa,cap,hc,-⟩:=HR.out.row k hlt
   have hN:=Zcm ls k hlt;have hle:=ZdM ls (k+1);have hlen:(ls.take (k+1)).flatten.length=(ls.take k).flatten.length+ls[k].length:=by rw [hN,List.length_append]
   rw [hlen] at hle;have HL:=h_ hlen;clear hN hlen;generalize (ls.take k).flatten.length=a at *;generalize ls[k].length=b at *;have i5:(k:Int)<(ls.length:Int):=o_;have h2:wrap64 ((a:Int)+(b:Int))=(a:Int)+(b:Int):=n49_;have h3:¬((a:Int)+(b:Int)<0):=o_;go_wp2_with fail;go_roundg (gk-1)
   case measure=>omega
   case rel=>exact ⟨k+1,o_,n14_,by rw [HL.out];go_num,o_,rfl⟩
  ·have hke:k=ls.length:=o_
   subst hke;rw [List.take_length];have hge:¬((ls.length:Int)<(ls.length:Int)):=o_;have HG:=h_ (ZnM ls.flatten.length w hs);generalize hFN:ls.flatten.length=N at HG⊢;have HFN:=h_ hFN;clear hFN;go_wp2_with fail;refine HG.out.mono ?_;rintro e w1 ⟨v0,rfl,ho,hb⟩;obtain ⟨ao,cap1,rfl⟩:=ownsRow_form ho;have HO:=h_ ho;have HB:=h_ hb;clear ho hb HG hfu hk hlt;go_wp2_with fail;go_loopg [6,27] (ls.length+1) (fun f v i w2=>∃k:Nat,k<=ls.length/\i=.int .i64 k/\ls.length-k<f/\Hid (w2.ownsRow w.heap.size 66 6 v (ls.take k).flatten.length (Zy Zv (ls.take k).flatten))/\Hid (Below w.heap.size w w2))
   case atStart=>exact ⟨0,o_,rfl,o_,HO,HB⟩
   case round=>
    obtain ⟨k,hk,rfl,hfu,Hown,Hb⟩:=hrel;clear HO HB;obtain ⟨oa',cap',rfl⟩:=ownsRow_form Hown.out;by_cases hlt:k<ls.length
    ·obtain ⟨oa,cap,hc,hrow⟩:=(HR.out.below Hb.out).row k hlt
     have hN:=Zcm ls k hlt;have hle:=Nat.lt_of_le_of_lt (ZdM ls (k+1)) HS.out;rw [hN,List.length_append] at hle;have HN:=h_ hN;have i5:(k:Int)<(ls.length:Int):=o_;obtain ⟨v',w3,hrun,hown,hgrow⟩:=Xu w.heap.size 98 98 66 i0 (.agg #[.string ⟨#[]⟩,.string ⟨#[]⟩,.int .i64 0,.bool false,.int .i64 0,.slice none 0 0]) 6 80 underlying98 hi0 hz0 hz1 hz2 rfl d_ _ _ _ Hown.out oa ls[k].length cap (Zy Zv ls[k]) (by rw [Xx (enc:=Zv) (k:=6) (fun _=>rfl)]) (ZB.flat (enc:=Zv) (k:=6) (fun _=>rfl) o_ hrow) (XC ZdG _) n20_ o_ Hb.out.size;have HRUN:=h_ hrun;have HB3:=h_ (Hb.out.grown hgrow Hb.out.size (fun g hg=>(Hown.out.lt g hg).1));have HO3:=h_ (show w3.ownsRow w.heap.size 66 6 v' (ls.take (k+1)).flatten.length (Zy Zv (ls.take (k+1)).flatten) by rw [hN,List.length_append,ZH];exact hown);clear hrun hown hgrow hN hrow;go_wp2_with (at_builtin;refine wpList_append_run rfl _ _ 98 rfl HRUN.out rfl rfl ?_);obtain ⟨ao,cap2,rfl⟩:=ownsRow_form HO3.out;go_roundg (gk-1)
     case measure=>omega
     case rel=>exact ⟨k+1,o_,n14_,o_,HO3,HB3⟩
    ·have hke:k=ls.length:=o_
     subst hke;have hge:¬((ls.length:Int)<(ls.length:Int)):=o_;have HO3:=h_ (by have:=Hown.out;rw [List.take_length] at this;exact this);clear Hown;rw [List.take_length];generalize hFL:ls.flatten=FL at HO3⊢;have HFL:=h_ hFL;clear hFL;go_wp2_with fail;go_ret;exact ⟨_,rfl,by rw [HFL.out];exact HO3.out,Hb.out⟩
theorem m15_{p:Prop}(h:p:=by go_enter func143,ntmps143;go_wp2_with fail;go_quiet ((go_at_call 138;exact Calls.quiet_of_same (Tryz.strings_IndexByte _ _ _)));go_wp2;go_ret2;exact ⟨rfl,_,rfl⟩):p:=h
theorem ZrA(a b c:UInt8):(0<=Lib.indexByte [a,b] c)↔(c=a\/c=b):=by
 simp only [Lib.indexByte];by_cases h1:a=c
 ·simp [h1]
 ·by_cases h2:b=c
  ·subst h2;simp [h1]
  ·simp [h1,h2]
   exact ⟨fun e=>h1 e.symm,fun e=>h2 e.symm⟩
theorem J8(c:UInt8)(w:World) :
  Calls prog 196 #[.int .u8 c.toNat] w fun e w'=>e=.returned (.bool (Zn c))/\w=w':=by
 go_enter func196,ntmps196;go_wp2_with (go_at_call 138;refine (Tryz.strings_IndexByte _ _ _).mono ?_;rintro e w' ⟨rfl,rfl⟩);go_ret;refine ⟨Y3 ?_,rfl⟩;rw [Zfe,decide_eq_decide,ZrA,<-UInt8.toNat_inj,<-UInt8.toNat_inj];simp;omega
abbrev ZbJ:List UInt8:=[48,49,50,51,52,53,54,55,56,57,97,98,99,100,101,102]
theorem Zn8(c:UInt8):Lib.indexByte ZbJ c=match hexOf c with|some n=>(n:Int)|none=>-1:=by
 have:=QR (p:=fun c=>decide (Lib.indexByte ZbJ c=match hexOf c with|some n=>(n:Int)|none=>-1)) n12_ c
 exact of_decide_eq_true this
theorem Zdh{c:UInt8}{n:Nat}(h:hexOf c=some n):n<16:=by
 have:=QR (p:=fun c=>match hexOf c with|some n=>decide (n<16)|none=>true) n12_ c
 rw [h] at this;exact of_decide_eq_true this
theorem ZrM(x y:Nat)(hx:x<16)(hy:y<16):bits BinOp.or IntKind.i64 ((x:Int)*16) y % 256=((UInt8.ofNat (16*x+y)).toNat:Int):=by
 have h:(List.range 16).all (fun x=>(List.range 16).all fun y=>decide (bits BinOp.or IntKind.i64 ((x:Int)*16) y % 256=((UInt8.ofNat (16*x+y)).toNat:Int)))=true:=n12_;have h1:=List.all_eq_true.1 h x (List.mem_range.2 hx);have h2:=List.all_eq_true.1 h1 y (List.mem_range.2 hy);exact of_decide_eq_true h2
def ZpV(l:List UInt8):Value:=match Xv l with
 |some d=>.tuple #[.int .u8 d.toNat,.bool true]
 |none=>.tuple #[.int .u8 0,.bool false]
theorem Znj(s:ByteArray)(w:World)(h:s.size<2) :
  Calls prog 143 #[.string s] w fun e w'=>e=.returned (.tuple #[.int .u8 0,.bool false])/\w=w':=by
 go_enter func143,ntmps143;go_wp2;go_ret2;exact ⟨rfl,rfl⟩
theorem Zo4(s:ByteArray)(w:World)(h:2<=s.size)(h63:s.size<=9223372036854775807) :
  Calls prog 143 #[.string s] w fun e w'=>e=.returned (ZpV [s[0],s[1]])/\∃n,w'=w.drewN n:=by
 have h0:0<s.size:=o_;have h1:(1:Int)<(s.size:Int):=o_;have e0:=Zn8 s[0];have e1:=Zn8 s[1];have l0:=@Zdh s[0];have l1:=@Zdh s[1];unfold ZpV;simp only [Xv];cases hx:hexOf s[0] with
 |none=>
  rw [hx] at e0;simp only at e0;clear l0 l1 e1 hx;exact m15_
 |some x=>
  rw [hx] at e0;simp only at e0;have hx16:=l0 hx;cases hy:hexOf s[1] with
  |none=>
   rw [hy] at e1;simp only at e1;clear l0 l1 hx hy;exact m15_
  |some y=>
   rw [hy] at e1;simp only at e1;have hy16:=l1 hy;clear l0 l1 hx hy;go_enter func143,ntmps143;go_wp2_with fail;go_quiet ((go_at_call 138;exact Calls.quiet_of_same (Tryz.strings_IndexByte _ _ _)));go_wp2;go_ret2;refine ⟨JZ (by rw [<-ZrM x y hx16 hy16];rfl),_,rfl⟩
theorem Zqy(s:ByteArray)(w:World)(h63:s.size<=9223372036854775807) :
  Calls prog 143 #[.string s] w fun e w'=>e=.returned (ZpV s.data.toList)/\∃n,w'=w.drewN n:=by
 by_cases h:s.size<2
 ·refine (Znj s w h).mono ?_
  rintro e w' ⟨rfl,rfl⟩;refine ⟨?_,0,rfl⟩;obtain ⟨⟨d⟩⟩:=s;match d,h with
  |[],_=>rfl
  |[a],_=>rfl
 ·refine (Zo4 s w o_ h63).mono ?_
  rintro e w' ⟨rfl,hw⟩;refine ⟨?_,hw⟩;obtain ⟨⟨d⟩⟩:=s;match d,h with
  |a::b::r,_=>rfl
  |[],h=>exact absurd (show 0<2 by decide) h
  |[a],h=>exact absurd (show 1<2 by decide) h
theorem Zpe(s:ByteArray)(w:World)(h63:s.size<=9223372036854775807)(l:List UInt8)(hl:s.data.toList=l) :
  Calls prog 143 #[.string s] w fun e w'=>e=.returned (.tuple #[.int .u8 ((Xv l).getD 0).toNat,.bool (Xv l).isSome])/\∃n,w'=w.drewN n:=by
 refine (Zqy s w h63).mono ?_;rintro e w' ⟨rfl,hw⟩;refine ⟨?_,hw⟩;rw [hl];unfold ZpV;cases Xv l<;>rfl
def XF(c:UInt8):Nat:=(hexOf c).getD 16
theorem ZiF(c:UInt8):XF c<=16:=by
 unfold XF;cases h:hexOf c with
 |none=>simp
 |some n=>have:=Zdh h;simp;omega
theorem ZpG(i:Nat)(h:i<16):XF (ZbJ[i]' n60_)=i:=by
 have:(List.range 16).all (fun i=>match ZbJ[i]? with|some c=>XF c==i|none=>false)=true:=n12_
 have h1:=List.all_eq_true.1 this i (List.mem_range.2 h);rw [List.getElem?_eq_getElem n60_] at h1;exact eq_of_beq h1
theorem Znh(c:UInt8)(h:∀j (hj:j<16),ZbJ[j]' n97_≠c):XF c=16:=by
 have h1:=QR (p:=fun c=>XF c==16||ZbJ[XF c]?==some c) n12_ c;rw [Bool.or_eq_true] at h1;rcases h1 with h2|h2
 ·exact eq_of_beq h2
 ·have h3:ZbJ[XF c]?=some c:=eq_of_beq h2
  rcases Nat.lt_or_ge (XF c) 16 with h4|h4
  ·rw [List.getElem?_eq_getElem (by simpa using h4)] at h3
   injection h3 with h3
   exact absurd h3 (h _ h4)
  ·have:=ZiF c;omega
theorem Zbq(c:UInt8)(w:World) :
  Calls prog 125 #[.int .u8 c.toNat] w fun e w'=>e=.returned (.int .i64 (XF c))/\w=w':=by
 go_enter func125,ntmps125;go_wp2;go_loop [3] (fun i=>∃k:Nat,k<=16/\i=.int .i64 k/\Hid (∀j (hj:j<16),j<k->ZbJ[j]' n97_≠c)) (fun i=>16-(intOf i).toNat)
 case atStart=>exact ⟨0,o_,rfl,fun j _ h=>absurd h o_⟩
 case round=>
  obtain ⟨k,hk,rfl,Hq⟩:=hrel;by_cases hlt:k<16
  ·have hlt':(k:Int)<16:=o_
   have hsz:k<(⟨#[48,49,50,51,52,53,54,55,56,57,97,98,99,100,101,102]⟩:ByteArray).size:=hlt;have hget:(⟨#[48,49,50,51,52,53,54,55,56,57,97,98,99,100,101,102]⟩:ByteArray)[k]=ZbJ[k]' n42_:=rfl;cases hb:(((⟨#[48,49,50,51,52,53,54,55,56,57,97,98,99,100,101,102]⟩:ByteArray)[k].toNat:Int)==(c.toNat:Int)) with
   |true=>
    have hh:ZbJ[k]' n42_=c:=by rw [<-hget];exact UInt8.toNat_inj.1 (by have:=eq_of_beq hb;omega)
    have HR:=h_ (show XF c=k by rw [<-hh];exact ZpG k hlt);clear hh hget;go_wp2;go_ret;exact ⟨Ju n134_,rfl⟩
   |false=>
    have hh:ZbJ[k]' n42_≠c:=by
     rw [<-hget];intro e;rw [e] at hb;simp at hb
    have HR:=h_ (show ∀j (hj:j<16),j<k+1->ZbJ[j]' n97_≠c by
     intro j hj hjk;rcases Nat.lt_or_ge j k with h1|h1
     ·exact Hq.out j hj h1
     ·have:j=k:=o_
      subst this;exact hh)
    clear hh hget;go_wp2;go_round
    case rel=>exact ⟨k+1,o_,n14_,HR⟩
    case measure=>simp [intOf];omega
  ·have:k=16:=o_
   subst this;have HR:=h_ (show XF c=16 from Znh c (fun j hj=>Hq.out j hj hj));go_wp2;go_ret;exact ⟨Ju n10_,rfl⟩
theorem m100_{p:Prop}(h:p:=by go_enter func169,ntmps169;go_wp2_with fail;refine HC.out.mono ?_;rw [HX.out];rintro e w' ⟨rfl,n,rfl⟩;go_wp2_with fail;go_ret;exact ⟨Ju n10_,dn _ _⟩):p:=h
theorem m101_{p:Prop}(h:p:=by go_enter func170,ntmps170;go_wp2_with (go_at_call 125;refine (Zbq _ _).mono ?_;rintro e w' ⟨rfl,rfl⟩);go_ret2;exact ⟨JZ (by rw [HE.out];rfl),dn0 _⟩):p:=h
def QF(r:List UInt8):UInt8×Nat:=match YR r with
 |some (d,n)=>(d,n)
 |none=>(0,0)
theorem ZqH(c:UInt8):(hexOf c=some 0)↔c=48:=by
 constructor
 ·intro h
  have:=QR (p:=fun c=>!(hexOf c==some 0)||c==48) n12_ c
  rw [h] at this;simpa using this
 ·intro h;subst h;rfl
theorem Zcy{c:UInt8}(h:XF c<16):hexOf c=some (XF c):=by
 unfold XF at *;cases hx:hexOf c with
 |none=>rw [hx] at h;simp at h
 |some n=>rfl
theorem ZdV{c:UInt8}(h:¬XF c<16):hexOf c=none:=by
 cases hx:hexOf c with
 |none=>rfl
 |some n=>have:=Zdh hx;unfold XF at h;rw [hx] at h;simp at h;omega
theorem ZrH(s:ByteArray)(h:3<=s.size):∃r,s.data.toList=s[0]::s[1]::s[2]::r:=by
 refine ⟨s.data.toList.drop 3,?_⟩;have h1:=drop_cons s 0 o_;have h2:=drop_cons s 1 o_;have h3:=drop_cons s 2 o_;rw [List.drop_zero] at h1;exact h1.trans (by rw [h2,h3])
theorem Znk(s:ByteArray)(w:World)(h63:s.size<=9223372036854775807)(h3:3<=s.size)(hx:s[0]=120) :
  Calls prog 170 #[.string s] w fun e w'=>e=.returned (.tuple #[.int .u8 (QF s.data.toList).1.toNat,.int .i64 ((QF s.data.toList).2:Nat)])/\∃n,w'=w.drewN n:=by
 have h0:0<s.size:=o_;have h1:(1:Int)<(s.size:Int):=o_;have h2:(2:Int)<(s.size:Int):=o_;have h3':(3:Int)<=(s.size:Int):=o_;obtain ⟨n1,n2,n3,n4⟩:=QX (s:=s) o_;obtain ⟨r,hsp⟩:=ZrH s h3;have c0:((s[0].toNat:Int)==92)=false/\((s[0].toNat:Int)==34)=false/\((s[0].toNat:Int)==39)=false/\((s[0].toNat:Int)==110)=false/\((s[0].toNat:Int)==116)=false/\((s[0].toNat:Int)==115)=false/\((s[0].toNat:Int)==120)=true:=by
  rw [hx];decide
 obtain ⟨c1,c2,c3,c4,c5,c6,c7⟩:=c0;have hE:QF s.data.toList=match Xv (s[1]::s[2]::r) with|some d=>(if d=0 then (0,0) else (d,3))|none=>(0,0):=by
  unfold QF;rw [hsp,hx];show (match (match Xv (s[1]::s[2]::r) with|some d=>if d=0 then none else some (d,3)|none=>none) with|some (d,n)=>(d,n)|none=>(0,0))=_;clear hsp;cases Xv (s[1]::s[2]::r) with
  |none=>rfl
  |some d=>
   simp only;by_cases hd:d=0
   ·rw [if_pos hd,if_pos hd]
   ·rw [if_neg hd,if_neg hd]
 have hex1:(s.extract 1 3).toList=[s[1],s[2]]:=by
  rw [Lib.extract_toList,hsp];rfl
 simp only [Xv] at hE;have HX:=h_ hx;clear hx hsp;by_cases hA:XF s[1]<16
 ·have eA:=Zcy hA
  by_cases hB:XF s[2]<16
  ·have eB:=Zcy hB
   rw [eA,eB] at hE;simp only at hE;have hA':(XF s[1]:Int)<16:=o_;have hB':(XF s[2]:Int)<16:=o_;cases h00:((s.extract 1 3).toList==[48,48]) with
   |true=>
    have hz:QF s.data.toList=(0,0):=by
     rw [hex1] at h00;have h4:[s[1],s[2]]=[48,48]:=eq_of_beq h00;injection h4 with h5 h6
     injection h6 with h6 _
     rw [hE,h5,h6];rfl
    have HE:=h_ hz;clear hz hE hex1 eA eB;exact m101_
   |false=>
    have hz:QF s.data.toList=(UInt8.ofNat (16*XF s[1]+XF s[2]),3):=by
     rw [hE,if_neg];intro e;have e1:(16*XF s[1]+XF s[2]) % 256=0:=by
      have:=congrArg UInt8.toNat e
      simpa using this
     have e2:XF s[1]=0:=o_;have e3:XF s[2]=0:=o_;rw [e2] at eA;rw [e3] at eB;rw [hex1,(ZqH _).1 eA,(ZqH _).1 eB] at h00;simp at h00
    have hbyte:(16*(XF s[1]:Int)+(XF s[2]:Int))=((UInt8.ofNat (16*XF s[1]+XF s[2])).toNat:Int):=by
     simp [UInt8.toNat_ofNat'];omega
    have HBy:=h_ hbyte;clear hbyte;have HE:=h_ hz;clear hz hE hex1 eA eB;go_enter func170,ntmps170;go_wp2_with (go_at_call 125;refine (Zbq _ _).mono ?_;rintro e w' ⟨rfl,rfl⟩);go_quiet ((go_at_call 125;exact QJ (Zbq _ _)));go_wp2;go_ret2;refine ⟨JZ ?_,dn _ _⟩;rw [HE.out,<-HBy.out];rfl
  ·rw [eA,ZdV hB] at hE
   simp only at hE;have hB':¬(XF s[2]:Int)<16:=o_;have HE:=h_ hE;clear hE hex1 eA;exact m101_
 ·rw [ZdV hA] at hE
  simp only at hE;have hA':¬(XF s[1]:Int)<16:=o_;have HE:=h_ hE;clear hE hex1;exact m101_
theorem Xz(s:ByteArray)(w:World)(h63:s.size<=9223372036854775807) :
  Calls prog 170 #[.string s] w fun e w'=>e=.returned (.tuple #[.int .u8 (QF s.data.toList).1.toNat,.int .i64 ((QF s.data.toList).2:Nat)])/\∃n,w'=w.drewN n:=by
 by_cases h0:s.size=0
 ·have:=ZdN h0
  subst this;clear h0;go_enter func170,ntmps170;go_wp2;go_ret2;exact ⟨rfl,dn0 _⟩
 ·obtain ⟨n1,n2,n3,n4⟩:=QX h0
  have hsp:s.data.toList=s[0]::s.data.toList.drop 1:=drop_cons s 0 n3;by_cases hx:s[0]=120
  ·by_cases h3:3<=s.size
   ·exact Znk s w h63 h3 hx
   ·have hE:QF s.data.toList=(0,0):=by
     have hl:(s.data.toList.drop 1).length<2:=n2_;rw [hsp,hx];unfold QF;match hd:s.data.toList.drop 1,hl with
     |[],_=>rfl
     |[a],_=>rfl
     |a::b::r,h=>exact absurd h s_
    have h3':¬(3:Int)<=(s.size:Int):=o_;have c0:((s[0].toNat:Int)==92)=false/\((s[0].toNat:Int)==34)=false/\((s[0].toNat:Int)==39)=false/\((s[0].toNat:Int)==110)=false/\((s[0].toNat:Int)==116)=false/\((s[0].toNat:Int)==115)=false/\((s[0].toNat:Int)==120)=true:=by
     rw [hx];decide
    obtain ⟨c1,c2,c3,c4,c5,c6,c7⟩:=c0;have HE:=h_ hE;clear hE hx hsp;go_enter func170,ntmps170;go_wp2_with fail;go_ret2;exact ⟨JZ (by rw [HE.out];rfl),dn0 _⟩
  ·have c7:((s[0].toNat:Int)==120)=false:=by
    rw [show (120:Int)=((120:UInt8).toNat:Int) from rfl,<-QG];simpa using hx
   have hE:QF s.data.toList=(if ((s[0].toNat:Int)==92||(s[0].toNat:Int)==34||(s[0].toNat:Int)==39) then (s[0],1) else if (s[0].toNat:Int)==110 then (10,1) else if (s[0].toNat:Int)==116 then (9,1) else if (s[0].toNat:Int)==115 then (32,1) else (0,0)):=by
    rw [hsp];unfold QF;simp only [YR,QG];have e1:((s[0].toNat:Int)==((120:UInt8).toNat:Int))=false:=c7;rw [e1];simp only [Bool.false_eq_true,if_false];have k92:((92:UInt8).toNat:Int)=92:=rfl;have k34:((34:UInt8).toNat:Int)=34:=rfl;have k39:((39:UInt8).toNat:Int)=39:=rfl;have k110:((110:UInt8).toNat:Int)=110:=rfl;have k116:((116:UInt8).toNat:Int)=116:=rfl;have k115:((115:UInt8).toNat:Int)=115:=rfl;rw [k92,k34,k39,k110,k116,k115];generalize ((s[0].toNat:Int)==92||(s[0].toNat:Int)==34||(s[0].toNat:Int)==39)=b1;generalize ((s[0].toNat:Int)==110)=b2;generalize ((s[0].toNat:Int)==116)=b3;generalize ((s[0].toNat:Int)==115)=b4;cases b1<;>cases b2<;>cases b3<;>cases b4<;>rfl
   have HE:=h_ hE;clear hE hx hsp;go_enter func170,ntmps170;go_wp2_with fail;all_goals
    go_ret2;refine ⟨JZ ?_,dn0 _⟩;rw [HE.out];simp [*]
theorem ZqU(c:UInt8)(r:Str):(if c==92&&(YR r).isNone then 13 else 2:Nat)=if ((c.toNat:Int)==92)=true/\((QF r).2:Int)=0 then 13 else 2:=by
 have h92:(c==92)=((c.toNat:Int)==92):=by rw [QG];rfl
 rw [h92];have he:((QF r).2:Int)=0↔(YR r).isNone=true:=by
  unfold QF;cases h:YR r with
  |none=>simp
  |some x=>obtain ⟨d,n⟩:=x;have:=JS h;simp;omega
 by_cases h1:((c.toNat:Int)==92)=true
 ·by_cases h2:(YR r).isNone=true
  ·rw [if_pos (by rw [h1,h2];rfl),if_pos ⟨h1,he.2 h2⟩]
  ·rw [if_neg (by simp [h2]),if_neg (fun h=>h2 (he.1 h.2))]
 ·rw [if_neg (by simp [h1]),if_neg (fun h=>h1 h.1)]
def ZaP(c:UInt8)(r:Str):Nat:=if c==92&&(YR r).isNone then 13 else 2
theorem ZaI(s:ByteArray)(w:World)(h63:s.size<=9223372036854775807)(h0:0<s.size) :
  Calls prog 169 #[.string s] w fun e w'=>e=.returned (.int .i64 (ZaP s[0] (s.data.toList.drop 1):Nat))/\∃n,w'=w.drewN n:=by
 have h1:(1:Int)<=(s.size:Int):=o_;have hx:(s.extract 1 s.size).data.toList=s.data.toList.drop 1:=Lib.extract_to_end s 1;have hxs:(s.extract 1 s.size).size<=9223372036854775807:=n2_;have HC:=h_ (Xz (s.extract 1 s.size) w hxs);have hW:ZaP s[0] (s.data.toList.drop 1)=_:=ZqU s[0] (s.data.toList.drop 1);generalize s.data.toList.drop 1=r at hx hW⊢;have HX:=h_ hx;clear hx;have HW:=h_ hW;clear hW;cases h92:((s[0].toNat:Int)==92) with
 |true=>
  rw [h92] at HW;cases h2:(((QF r).2:Int)==0) with
  |true=>
   have HR:=h_ (HW.out.trans (if_pos ⟨rfl,n80_⟩));exact m100_
  |false=>
   have HR:=h_ (HW.out.trans (if_neg (fun h=>by have:=h.2;simp [this] at h2)));exact m100_
 |false=>
  rw [h92] at HW;have HR:=h_ (HW.out.trans (if_neg (fun h=>by cases h.1)));exact m100_
end Go.Proofs.YtgoooebfhdbbkaaGreatDoor

import Derived.Shelf.Strings.Builder1
import Derived.Shelf.Strings.Builder2
import Derived.Shelf.Strings.OnBuilder
import Derived.Shelf.Strings.Trim
import Derived.Shelf.Small.Utf8
import Derived.Shelf.Small.Strs
import Derived.Shelf.Small.Wraps
import Derived.Shelf.Strings.BuilderF
import Derived.Shelf.Strconv.Atoi
import Derived.Shelf.Strconv.Itoa0
import Derived.Shelf.Strconv.Itoa1
import Derived.Shelf.LaysM
import Derived.Shelf.Strconv.Itoa2
import Derived.Shelf.Strconv.Itoa3
import Derived.Shelf.Strconv.AtoiErrFast
import Derived.Shelf.Strconv.ParseIntEmpty
import Derived.Shelf.Strconv.AtoiFail
import Derived.Shelf.Strconv.Clone
import Derived.Shelf.Strconv.SyntaxError
import Derived.Shelf.LaysC
import Derived.Shelf.Strconv.ToError
import Derived.Shelf.Strconv.Lower
import Derived.Shelf.Strconv.ParseUint10
import Derived.Shelf.Strconv.ParseUint10Empty
import Derived.Shelf.Strconv.ParseUint10Any
import Derived.Shelf.Strconv.ParseInt10
import Derived.Shelf.Strconv.AtoiLong
import Derived.Shelf.Strconv.AtoiInnerAll
import Derived.Shelf.Strconv.RangeError
import Derived.Shelf.Strconv.ToErrorRange
import Derived.Shelf.Strconv.AtoiAll
import Derived.Shelf.Strconv.ErrVarAll
import Derived.Shelf.Strconv.ParseUintEmpty
import Derived.Shelf.Strconv.ParseUint10b64
import Derived.Shelf.Strconv.ParseUint10b32
import Derived.Shelf.Strconv.ParseUint10b16
import Derived.Shelf.Strconv.ParseUint10b8
import Derived.Shelf.Strconv.ParseUint10At
import Derived.Shelf.Strconv.ParseInt10At64
import Derived.Shelf.Strconv.ParseInt10At32
import Derived.Shelf.Strconv.ParseInt10At16
import Derived.Shelf.Strconv.ParseInt10At8
import Derived.Shelf.Strconv.ParseInt10All
import Derived.Shelf.Strings.Search1
import Derived.Shelf.Strings.Search2
import Derived.Shelf.Strings.Search3
import Derived.Shelf.Strings.Cut
import Derived.Shelf.Strings.Count
import Derived.Shelf.Strings.Shaped
import Derived.Shelf.Strings.LastIndex
import Derived.Shelf.Strings.LastIndexAll
import Derived.Shelf.Strings.Prefix
import Derived.Shelf.Strings.Split
import Derived.Shelf.Strings.Replace
import Derived.Shelf.Strings.SplitShaped
import Derived.Shelf.Strings.Runes
import Derived.Shelf.Strings.AsciiSet
import Derived.Shelf.Bits.Mul64
import Derived.Shelf.Strings.Repeat
import Derived.Shelf.Unicode.DecodeSlow
import Derived.Shelf.Unicode.DecodeAny
import Derived.Shelf.Unicode.DecodeLast
import Derived.Shelf.Strings.FieldsFuncAny
import Derived.Shelf.Strings.FieldsFuncGrows
import Derived.Shelf.Slices.Turned
import Derived.Ground.SlgnProg
import Derived.Shelf.SlicesE.Equal
import Derived.Shelf.SlicesE.Clone
import Derived.Ground.PaProg
import Derived.Shelf.Path.Small
import Derived.Test.YtmgmbeipbeknaaaGreatDoorProg
import Derived.Shelf.SlGeneric
import Derived.Shelf.SlicesQ.IndexFunc
import Derived.Shelf.SlicesQ.Equal
import Derived.Ground.SlgfProg
import Derived.Ground.SlgqProg
import Derived.Lib.AppendZerosOnto
import Derived.Lib.SliceRun
import Derived.Test.YtmgmbeipbeknaaaGreatDoorRF4
namespace Go.Proofs
open Go.Proofs.Tryz
open Go.Shelf
set_option linter.unusedVariables false
set_option linter.unusedSimpArgs false
set_option maxHeartbeats 16000000
def Tryz.findKey_ren:Go.Shelf.Ren:=⟨fun|6=>133|n=>n,fun|22=>79|23=>82|25=>153|3=>3|0=>0|4=>4|n=>n,fun|n=>n⟩
theorem Tryz.findKey:Go.Proofs.SlLaysH0.n6 prog Tryz.findKey_ren:={
 mixed:=by kernel_rfl
 f6:=⟨Tryz.f133.name,by decide,func133.trans (congrArg some (by kernel_rfl))⟩
 t0:=underlying0
 a0:=isAgg0
 z0:=sizeOf0
 v0:=zeroValue0
 t3:=underlying3
 a3:=isAgg3
 z3:=sizeOf3
 v3:=zeroValue3
 t4:=underlying4
 a4:=isAgg4
 z4:=sizeOf4
 v4:=zeroValue4
 t22:=underlying79
 a22:=isAgg79
 z22:=sizeOf79
 v22:=zeroValue79
 t25:=underlying153
 a25:=isAgg153
 z25:=sizeOf153
 v25:=zeroValue153 }
def Tryz.hasKey_ren:Go.Shelf.Ren:=⟨fun|8=>129|6=>133|n=>n,fun|22=>79|23=>82|25=>153|4=>4|3=>3|0=>0|n=>n,fun|n=>n⟩
theorem Tryz.hasKey:Go.Proofs.SlLaysH0.n8 prog Tryz.hasKey_ren:={
 mixed:=by kernel_rfl
 f6:=⟨Tryz.f133.name,by decide,func133.trans (congrArg some (by kernel_rfl))⟩
 f8:=⟨Tryz.f129.name,by decide,func129.trans (congrArg some (by kernel_rfl))⟩
 t0:=underlying0
 a0:=isAgg0
 z0:=sizeOf0
 v0:=zeroValue0
 t3:=underlying3
 a3:=isAgg3
 z3:=sizeOf3
 v3:=zeroValue3
 t4:=underlying4
 a4:=isAgg4
 z4:=sizeOf4
 v4:=zeroValue4
 t22:=underlying79
 a22:=isAgg79
 z22:=sizeOf79
 v22:=zeroValue79
 t25:=underlying153
 a25:=isAgg153
 z25:=sizeOf153
 v25:=zeroValue153 }
def Tryz.findPair_ren:Go.Shelf.Ren:=⟨fun|6=>265|n=>n,fun|22=>25|23=>64|25=>208|3=>3|0=>0|4=>4|n=>n,fun|n=>n⟩
theorem Tryz.findPair:Go.Proofs.SlLaysH0.n6 prog Tryz.findPair_ren:={
 mixed:=by kernel_rfl
 f6:=⟨Tryz.f265.name,by decide,func265.trans (congrArg some (by kernel_rfl))⟩
 t0:=underlying0
 a0:=isAgg0
 z0:=sizeOf0
 v0:=zeroValue0
 t3:=underlying3
 a3:=isAgg3
 z3:=sizeOf3
 v3:=zeroValue3
 t4:=underlying4
 a4:=isAgg4
 z4:=sizeOf4
 v4:=zeroValue4
 t22:=underlying25
 a22:=isAgg25
 z22:=sizeOf25
 v22:=zeroValue25
 t25:=underlying208
 a25:=isAgg208
 z25:=sizeOf208
 v25:=zeroValue208 }
def Tryz.findRel_ren:Go.Shelf.Ren:=⟨fun|6=>270|n=>n,fun|22=>22|23=>47|25=>215|3=>3|0=>0|4=>4|n=>n,fun|n=>n⟩
theorem Tryz.findRel:Go.Proofs.SlLaysH0.n6 prog Tryz.findRel_ren:={
 mixed:=by kernel_rfl
 f6:=⟨Tryz.f270.name,by decide,func270.trans (congrArg some (by kernel_rfl))⟩
 t0:=underlying0
 a0:=isAgg0
 z0:=sizeOf0
 v0:=zeroValue0
 t3:=underlying3
 a3:=isAgg3
 z3:=sizeOf3
 v3:=zeroValue3
 t4:=underlying4
 a4:=isAgg4
 z4:=sizeOf4
 v4:=zeroValue4
 t22:=underlying22
 a22:=isAgg22
 z22:=sizeOf22
 v22:=zeroValue22
 t25:=underlying215
 a25:=isAgg215
 z25:=sizeOf215
 v25:=zeroValue215 }
def Tryz.lays156_ren:Go.Shelf.Ren:=⟨fun|156=>178|165=>236|166=>99|169=>100|240=>185|241=>280|276=>242|277=>313|n=>n,fun|31=>26|9=>9|3=>3|4=>4|0=>0|20=>20|72=>127|76=>130|70=>124|37=>125|75=>129|127=>196|164=>227|5=>5|80=>74|n=>n,fun|n=>n⟩
theorem lays156:Go.Proofs.Lays.n156 prog Tryz.lays156_ren:={
 mixed:=by kernel_rfl
 f156:=func178.trans (congrArg some (by kernel_rfl))
 f165:=func236.trans (congrArg some (by kernel_rfl))
 f166:=func99.trans (congrArg some (by kernel_rfl))
 f169:=func100.trans (congrArg some (by kernel_rfl))
 f240:=func185.trans (congrArg some (by kernel_rfl))
 f241:=func280.trans (congrArg some (by kernel_rfl))
 f276:=func242.trans (congrArg some (by kernel_rfl))
 f277:=func313.trans (congrArg some (by kernel_rfl))
 t0:=underlying0
 a0:=isAgg0
 z0:=sizeOf0
 v0:=zeroValue0
 t3:=underlying3
 a3:=isAgg3
 z3:=sizeOf3
 v3:=zeroValue3
 t4:=underlying4
 a4:=isAgg4
 z4:=sizeOf4
 v4:=zeroValue4
 t9:=underlying9
 a9:=isAgg9
 z9:=sizeOf9
 v9:=zeroValue9
 t20:=underlying20
 a20:=isAgg20
 z20:=sizeOf20
 v20:=zeroValue20
 t31:=underlying26
 a31:=isAgg26
 z31:=sizeOf26
 v31:=zeroValue26
 t37:=underlying125
 a37:=isAgg125
 z37:=sizeOf125
 v37:=zeroValue125
 t70:=underlying124
 a70:=isAgg124
 z70:=sizeOf124
 v70:=zeroValue124
 t72:=underlying127
 a72:=isAgg127
 z72:=sizeOf127
 v72:=zeroValue127
 t75:=underlying129
 a75:=isAgg129
 z75:=sizeOf129
 v75:=zeroValue129
 t76:=underlying130
 a76:=isAgg130
 z76:=sizeOf130
 v76:=zeroValue130
 t127:=underlying196
 a127:=isAgg196
 z127:=sizeOf196
 v127:=zeroValue196
 t164:=underlying227
 a164:=isAgg227
 z164:=sizeOf227
 v164:=zeroValue227 }
theorem Tryz.Builder_Extra_156:Builder.Extra prog Tryz.lays156_ren:={
 sizeBuilder:=by kernel_rfl
 liesBuilder:=by kernel_rfl
 t5:=underlying5
 a5:=isAgg5
 z5:=sizeOf5
 v5:=zeroValue5
 infoByte:=by kernel_rfl
 cellsByte:=by kernel_rfl
 sizeByte:=by kernel_rfl
 neB5:=by decide }
open Go.RowKit in
theorem Tryz.strings_Join_none(a:Option Addr)(c:Nat)(sep:ByteArray)(w:World) :
  Calls prog 178 #[.slice a 0 c,.string sep] w fun e w'=>e=.returned (.string ⟨#[]⟩)/\w'=w:=Any.strings_Join_none lays156 Tryz.Builder_Extra_156 a c sep w
open Go.RowKit in
theorem Tryz.strings_Join(bk o c:Nat)(xs:List ByteArray)(sep:ByteArray)(w:World)(hcells:∀(j:Nat) x,xs[j]?=some x->w.cell? ⟨bk,o+j,none⟩=some (.string x))(hbk:bk<w.heap.size)(hN:xs.length<=140737488355328)(hcap:xs.length<=c)(hlen:(Lib.join (xs.map (·.data.toList)) sep.data.toList).length<=140737488355328) :
  Calls prog 178 #[.slice (some ⟨bk,o,none⟩) xs.length c,.string sep] w fun e w'=>e=.returned (.string ⟨(Lib.join (xs.map (·.data.toList)) sep.data.toList).toArray⟩)/\Below w.heap.size w w':=Any.strings_Join lays156 Tryz.Builder_Extra_156 bk o c xs sep w hcells hbk hN hcap hlen
def Tryz.lays160_ren:Go.Shelf.Ren:=⟨fun|160=>82|232=>160|231=>159|227=>161|234=>163|233=>162|236=>165|235=>164|228=>228|271=>230|151=>229|197=>226|120=>278|152=>277|260=>276|137=>175|119=>312|224=>274|225=>273|217=>233|266=>279|n=>n,fun|9=>9|4=>4|3=>3|5=>5|117=>181|116=>180|0=>0|124=>184|21=>21|105=>218|46=>86|119=>280|139=>283|138=>282|n=>n,fun|3=>1|4=>2|n=>n⟩
theorem lays160:Go.Proofs.Lays.n160 prog Tryz.lays160_ren:={
 mixed:=by kernel_rfl
 f119:=func312.trans (congrArg some (by kernel_rfl))
 f120:=func278.trans (congrArg some (by kernel_rfl))
 f137:=func175.trans (congrArg some (by kernel_rfl))
 f151:=func229.trans (congrArg some (by kernel_rfl))
 f152:=func277.trans (congrArg some (by kernel_rfl))
 f160:=func82.trans (congrArg some (by kernel_rfl))
 f197:=func226.trans (congrArg some (by kernel_rfl))
 f217:=func233.trans (congrArg some (by kernel_rfl))
 f224:=func274.trans (congrArg some (by kernel_rfl))
 f225:=func273.trans (congrArg some (by kernel_rfl))
 f227:=func161.trans (congrArg some (by kernel_rfl))
 f228:=func228.trans (congrArg some (by kernel_rfl))
 f231:=func159.trans (congrArg some (by kernel_rfl))
 f232:=func160.trans (congrArg some (by kernel_rfl))
 f233:=func162.trans (congrArg some (by kernel_rfl))
 f234:=func163.trans (congrArg some (by kernel_rfl))
 f235:=func164.trans (congrArg some (by kernel_rfl))
 f236:=func165.trans (congrArg some (by kernel_rfl))
 f260:=func276.trans (congrArg some (by kernel_rfl))
 f266:=func279.trans (congrArg some (by kernel_rfl))
 f271:=func230.trans (congrArg some (by kernel_rfl))
 t0:=underlying0
 a0:=isAgg0
 z0:=sizeOf0
 v0:=zeroValue0
 t3:=underlying3
 a3:=isAgg3
 z3:=sizeOf3
 v3:=zeroValue3
 t4:=underlying4
 a4:=isAgg4
 z4:=sizeOf4
 v4:=zeroValue4
 t5:=underlying5
 a5:=isAgg5
 z5:=sizeOf5
 v5:=zeroValue5
 t9:=underlying9
 a9:=isAgg9
 z9:=sizeOf9
 v9:=zeroValue9
 t21:=underlying21
 a21:=isAgg21
 z21:=sizeOf21
 v21:=zeroValue21
 t46:=underlying86
 a46:=isAgg86
 z46:=sizeOf86
 v46:=zeroValue86
 t105:=underlying218
 a105:=isAgg218
 z105:=sizeOf218
 v105:=zeroValue218
 t116:=underlying180
 a116:=isAgg180
 z116:=sizeOf180
 t117:=underlying181
 a117:=isAgg181
 z117:=sizeOf181
 v117:=zeroValue181
 t119:=underlying280
 a119:=isAgg280
 z119:=sizeOf280
 t124:=underlying184
 a124:=isAgg184
 z124:=sizeOf184
 v124:=zeroValue184
 t138:=underlying282
 a138:=isAgg282
 z138:=sizeOf282
 v138:=zeroValue282
 t139:=underlying283
 a139:=isAgg283
 z139:=sizeOf283
 v139:=zeroValue283
 g3:=by kernel_rfl
 g4:=by kernel_rfl }
def Tryz.lays137_ren:Go.Shelf.Ren:=⟨fun|137=>175|217=>233|266=>279|n=>n,fun|9=>9|5=>5|3=>3|n=>n,fun|n=>n⟩
theorem lays137:Go.Proofs.Lays.n137 prog Tryz.lays137_ren:={
 mixed:=by kernel_rfl
 f137:=func175.trans (congrArg some (by kernel_rfl))
 f217:=func233.trans (congrArg some (by kernel_rfl))
 f266:=func279.trans (congrArg some (by kernel_rfl))
 t3:=underlying3
 a3:=isAgg3
 z3:=sizeOf3
 v3:=zeroValue3
 t5:=underlying5
 a5:=isAgg5
 z5:=sizeOf5
 v5:=zeroValue5
 t9:=underlying9
 a9:=isAgg9
 z9:=sizeOf9
 v9:=zeroValue9 }
open Go.RowKit in
theorem Tryz.strings_IndexByte(s:ByteArray)(c:Int)(w:World) :
  Calls prog 175 #[.string s,.int .u8 c] w fun e w'=>e=.returned (.int .i64 (Lib.indexByte s.data.toList c.toNat.toUInt8))/\w'=w:=Any.strings_IndexByte lays137 s c w
def Tryz.lays103_ren:Go.Shelf.Ren:=⟨fun|103=>84|210=>168|206=>231|n=>n,fun|9=>9|4=>4|24=>111|3=>3|n=>n,fun|n=>n⟩
theorem lays103:Go.Proofs.Lays.n103 prog Tryz.lays103_ren:={
 mixed:=by kernel_rfl
 f103:=func84.trans (congrArg some (by kernel_rfl))
 f206:=func231.trans (congrArg some (by kernel_rfl))
 f210:=func168.trans (congrArg some (by kernel_rfl))
 t3:=underlying3
 a3:=isAgg3
 z3:=sizeOf3
 v3:=zeroValue3
 t4:=underlying4
 a4:=isAgg4
 z4:=sizeOf4
 v4:=zeroValue4
 t9:=underlying9
 a9:=isAgg9
 z9:=sizeOf9
 v9:=zeroValue9
 t24:=underlying111
 a24:=isAgg111
 z24:=sizeOf111
 v24:=zeroValue111 }
open Go.RowKit in
theorem Tryz.strings_CutPrefix(s p:ByteArray)(w:World) :
  Calls prog 84 #[.string s,.string p] w fun e w'=>e=.returned (.tuple #[.string ⟨(Lib.trimPrefix s.data.toList p.data.toList).toArray⟩,.bool (Lib.hasPrefix s.data.toList p.data.toList)])/\w'=w:=Any.strings_CutPrefix lays103 s p w
def Tryz.lays172_ren:Go.Shelf.Ren:=⟨fun|172=>206|244=>258|245=>259|247=>300|279=>301|280=>302|281=>303|282=>304|287=>328|316=>329|171=>238|205=>330|321=>344|322=>345|243=>282|246=>314|283=>332|284=>333|285=>334|286=>335|129=>347|317=>346|318=>348|319=>349|320=>350|337=>357|338=>358|n=>n,fun|9=>9|3=>3|75=>129|76=>130|4=>4|5=>5|167=>270|37=>125|0=>0|85=>271|2=>2|168=>273|53=>257|175=>303|46=>86|210=>306|127=>196|145=>323|143=>321|21=>21|171=>308|173=>311|212=>325|51=>250|20=>20|213=>326|232=>331|233=>332|80=>74|n=>n,fun|15=>3|16=>4|17=>5|18=>6|19=>7|n=>n⟩
theorem lays172:Go.Proofs.Lays.n172 prog Tryz.lays172_ren:={
 mixed:=by kernel_rfl
 f129:=func347.trans (congrArg some (by kernel_rfl))
 f171:=func238.trans (congrArg some (by kernel_rfl))
 f172:=func206.trans (congrArg some (by kernel_rfl))
 f205:=func330.trans (congrArg some (by kernel_rfl))
 f243:=func282.trans (congrArg some (by kernel_rfl))
 f244:=func258.trans (congrArg some (by kernel_rfl))
 f245:=func259.trans (congrArg some (by kernel_rfl))
 f246:=func314.trans (congrArg some (by kernel_rfl))
 f247:=func300.trans (congrArg some (by kernel_rfl))
 f279:=func301.trans (congrArg some (by kernel_rfl))
 f280:=func302.trans (congrArg some (by kernel_rfl))
 f281:=func303.trans (congrArg some (by kernel_rfl))
 f282:=func304.trans (congrArg some (by kernel_rfl))
 f283:=func332.trans (congrArg some (by kernel_rfl))
 f284:=func333.trans (congrArg some (by kernel_rfl))
 f285:=func334.trans (congrArg some (by kernel_rfl))
 f286:=func335.trans (congrArg some (by kernel_rfl))
 f287:=func328.trans (congrArg some (by kernel_rfl))
 f316:=func329.trans (congrArg some (by kernel_rfl))
 f317:=func346.trans (congrArg some (by kernel_rfl))
 f318:=func348.trans (congrArg some (by kernel_rfl))
 f319:=func349.trans (congrArg some (by kernel_rfl))
 f320:=func350.trans (congrArg some (by kernel_rfl))
 f321:=func344.trans (congrArg some (by kernel_rfl))
 f322:=func345.trans (congrArg some (by kernel_rfl))
 f337:=func357.trans (congrArg some (by kernel_rfl))
 f338:=func358.trans (congrArg some (by kernel_rfl))
 t0:=underlying0
 a0:=isAgg0
 z0:=sizeOf0
 v0:=zeroValue0
 t2:=underlying2
 a2:=isAgg2
 z2:=sizeOf2
 v2:=zeroValue2
 t3:=underlying3
 a3:=isAgg3
 z3:=sizeOf3
 v3:=zeroValue3
 t4:=underlying4
 a4:=isAgg4
 z4:=sizeOf4
 v4:=zeroValue4
 t5:=underlying5
 a5:=isAgg5
 z5:=sizeOf5
 v5:=zeroValue5
 t9:=underlying9
 a9:=isAgg9
 z9:=sizeOf9
 v9:=zeroValue9
 t20:=underlying20
 a20:=isAgg20
 z20:=sizeOf20
 v20:=zeroValue20
 t21:=underlying21
 a21:=isAgg21
 z21:=sizeOf21
 v21:=zeroValue21
 t37:=underlying125
 a37:=isAgg125
 z37:=sizeOf125
 v37:=zeroValue125
 t46:=underlying86
 a46:=isAgg86
 z46:=sizeOf86
 v46:=zeroValue86
 t51:=underlying250
 a51:=isAgg250
 z51:=sizeOf250
 v51:=zeroValue250
 t53:=underlying257
 a53:=isAgg257
 z53:=sizeOf257
 v53:=zeroValue257
 t75:=underlying129
 a75:=isAgg129
 z75:=sizeOf129
 v75:=zeroValue129
 t76:=underlying130
 a76:=isAgg130
 z76:=sizeOf130
 v76:=zeroValue130
 t85:=underlying271
 a85:=isAgg271
 z85:=sizeOf271
 v85:=zeroValue271
 t127:=underlying196
 a127:=isAgg196
 z127:=sizeOf196
 v127:=zeroValue196
 t143:=underlying321
 a143:=isAgg321
 z143:=sizeOf321
 v143:=zeroValue321
 t145:=underlying323
 a145:=isAgg323
 z145:=sizeOf323
 v145:=zeroValue323
 t167:=underlying270
 a167:=isAgg270
 z167:=sizeOf270
 v167:=zeroValue270
 t168:=underlying273
 a168:=isAgg273
 z168:=sizeOf273
 v168:=zeroValue273
 t171:=underlying308
 a171:=isAgg308
 z171:=sizeOf308
 v171:=zeroValue308
 t173:=underlying311
 a173:=isAgg311
 z173:=sizeOf311
 v173:=zeroValue311
 t175:=underlying303
 a175:=isAgg303
 z175:=sizeOf303
 v175:=zeroValue303
 t210:=underlying306
 a210:=isAgg306
 z210:=sizeOf306
 v210:=zeroValue306
 t212:=underlying325
 a212:=isAgg325
 z212:=sizeOf325
 v212:=zeroValue325
 t213:=underlying326
 a213:=isAgg326
 z213:=sizeOf326
 t232:=underlying331
 a232:=isAgg331
 z232:=sizeOf331
 v232:=zeroValue331
 t233:=underlying332
 a233:=isAgg332
 z233:=sizeOf332
 v233:=zeroValue332
 g15:=by kernel_rfl
 g16:=by kernel_rfl
 g17:=by kernel_rfl
 g18:=by kernel_rfl
 g19:=by kernel_rfl }
open Go.RowKit in
theorem Tryz.strconv_Atoi(s:ByteArray)(n:Int)(hl:s.size<=18)(h:Lib.atoi s.data.toList=some n)(w:World) :
  Calls prog 206 #[.string s] w fun e w'=>e=.returned (.tuple #[.int .i64 n,.nilIface])/\∃t,w'=Lib.bytesWorld w 5 t:=Any.strconv_Atoi lays172 s n hl h w
def Tryz.laysM171_ren:Go.Shelf.Ren:=⟨fun|171=>238|243=>282|246=>314|283=>332|284=>333|285=>334|286=>335|129=>347|317=>346|318=>348|319=>349|320=>350|337=>357|338=>358|n=>n,fun|3=>3|9=>9|2=>2|4=>4|171=>308|0=>0|53=>257|37=>125|5=>5|173=>311|212=>325|51=>250|20=>20|213=>326|46=>86|232=>331|233=>332|n=>n,fun|17=>5|18=>6|19=>7|n=>n⟩
theorem Tryz.laysM171:Go.Proofs.LaysM.n171 prog Tryz.laysM171_ren:={
 mixed:=by kernel_rfl
 f129:=func347.trans (congrArg some (by kernel_rfl))
 f171:=func238.trans (congrArg some (by kernel_rfl))
 f243:=func282.trans (congrArg some (by kernel_rfl))
 f246:=func314.trans (congrArg some (by kernel_rfl))
 f283:=func332.trans (congrArg some (by kernel_rfl))
 f284:=func333.trans (congrArg some (by kernel_rfl))
 f285:=func334.trans (congrArg some (by kernel_rfl))
 f286:=func335.trans (congrArg some (by kernel_rfl))
 f317:=func346.trans (congrArg some (by kernel_rfl))
 f318:=func348.trans (congrArg some (by kernel_rfl))
 f319:=func349.trans (congrArg some (by kernel_rfl))
 f320:=func350.trans (congrArg some (by kernel_rfl))
 f337:=func357.trans (congrArg some (by kernel_rfl))
 f338:=func358.trans (congrArg some (by kernel_rfl))
 t0:=underlying0
 a0:=isAgg0
 z0:=sizeOf0
 v0:=zeroValue0
 t2:=underlying2
 a2:=isAgg2
 z2:=sizeOf2
 v2:=zeroValue2
 t3:=underlying3
 a3:=isAgg3
 z3:=sizeOf3
 v3:=zeroValue3
 t4:=underlying4
 a4:=isAgg4
 z4:=sizeOf4
 v4:=zeroValue4
 t5:=underlying5
 a5:=isAgg5
 z5:=sizeOf5
 v5:=zeroValue5
 t9:=underlying9
 a9:=isAgg9
 z9:=sizeOf9
 v9:=zeroValue9
 t20:=underlying20
 a20:=isAgg20
 z20:=sizeOf20
 v20:=zeroValue20
 t37:=underlying125
 a37:=isAgg125
 z37:=sizeOf125
 v37:=zeroValue125
 t46:=underlying86
 a46:=isAgg86
 z46:=sizeOf86
 v46:=zeroValue86
 t51:=underlying250
 a51:=isAgg250
 z51:=sizeOf250
 v51:=zeroValue250
 t53:=underlying257
 a53:=isAgg257
 z53:=sizeOf257
 v53:=zeroValue257
 t171:=underlying308
 a171:=isAgg308
 z171:=sizeOf308
 v171:=zeroValue308
 t173:=underlying311
 a173:=isAgg311
 z173:=sizeOf311
 v173:=zeroValue311
 t212:=underlying325
 a212:=isAgg325
 z212:=sizeOf325
 v212:=zeroValue325
 t213:=underlying326
 a213:=isAgg326
 z213:=sizeOf326
 t232:=underlying331
 a232:=isAgg331
 z232:=sizeOf331
 v232:=zeroValue331
 t233:=underlying332
 a233:=isAgg332
 z233:=sizeOf332
 v233:=zeroValue332
 g17:=by kernel_rfl
 g18:=by kernel_rfl
 g19:=by kernel_rfl
 i0:=by kernel_rfl
 i2:=by kernel_rfl
 i3:=by kernel_rfl
 i4:=by kernel_rfl
 i5:=by kernel_rfl
 i9:=by kernel_rfl
 i20:=by kernel_rfl
 i37:=by kernel_rfl
 i46:=by kernel_rfl
 i51:=by kernel_rfl
 i53:=by kernel_rfl
 i171:=by kernel_rfl
 i173:=by kernel_rfl
 i212:=by kernel_rfl
 i232:=by kernel_rfl
 i233:=by kernel_rfl
 m17:=by kernel_rfl
 m18:=by kernel_rfl
 m19:=by kernel_rfl }
open Go.RowKit Go.Sort Go.Lib in
theorem Tryz.strconv_Itoa(n:Int)(h0 : -9223372036854775808<=n)(h1:n<=9223372036854775807)(w:World)(htab:Lib.TabIs prog w "internal/strconv.uint64pow10" .u64 Lib.pow10Tab) :
  Calls prog 238 #[.int .i64 n] w fun e w'=>e=.returned (.string ⟨(Lib.itoa n).toArray⟩)/\∃k os,w'=grow (w.drewN k) os:=Any.strconv_Itoa Tryz.laysM171 n h0 h1 w htab
def Tryz.lays143_ren:Go.Shelf.Ren:=⟨fun|143=>158|219=>222|217=>233|225=>273|224=>274|267=>275|266=>279|314=>311|n=>n,fun|9=>9|3=>3|4=>4|5=>5|46=>86|146=>251|51=>250|n=>n,fun|1=>0|n=>n⟩
theorem lays143:Go.Proofs.Lays.n143 prog Tryz.lays143_ren:={
 mixed:=by kernel_rfl
 f143:=func158.trans (congrArg some (by kernel_rfl))
 f217:=func233.trans (congrArg some (by kernel_rfl))
 f219:=func222.trans (congrArg some (by kernel_rfl))
 f224:=func274.trans (congrArg some (by kernel_rfl))
 f225:=func273.trans (congrArg some (by kernel_rfl))
 f266:=func279.trans (congrArg some (by kernel_rfl))
 f267:=func275.trans (congrArg some (by kernel_rfl))
 f314:=func311.trans (congrArg some (by kernel_rfl))
 t3:=underlying3
 a3:=isAgg3
 z3:=sizeOf3
 v3:=zeroValue3
 t4:=underlying4
 a4:=isAgg4
 z4:=sizeOf4
 v4:=zeroValue4
 t5:=underlying5
 a5:=isAgg5
 z5:=sizeOf5
 v5:=zeroValue5
 t9:=underlying9
 a9:=isAgg9
 z9:=sizeOf9
 v9:=zeroValue9
 t46:=underlying86
 a46:=isAgg86
 z46:=sizeOf86
 v46:=zeroValue86
 t51:=underlying250
 a51:=isAgg250
 z51:=sizeOf250
 v51:=zeroValue250
 t146:=underlying251
 a146:=isAgg251
 z146:=sizeOf251
 v146:=zeroValue251
 g1:=by kernel_rfl }
open Go.RowKit Go.Lib in
theorem Tryz.strings_Index_one(s:ByteArray)(c:UInt8)(w:World) :
  Calls prog 158 #[.string s,.string ⟨#[c]⟩] w fun e w'=>e=.returned (.int .i64 (Lib.indexByte s.data.toList c))/\w'=w:=Any.strings_Index_one lays143 s c w
def Tryz.lays144_ren:Go.Shelf.Ren:=⟨fun|144=>296|143=>158|219=>222|217=>233|225=>273|224=>274|267=>275|266=>279|314=>311|n=>n,fun|9=>9|4=>4|3=>3|5=>5|46=>86|146=>251|51=>250|n=>n,fun|1=>0|n=>n⟩
theorem lays144:Go.Proofs.Lays.n144 prog Tryz.lays144_ren:={
 mixed:=by kernel_rfl
 f143:=func158.trans (congrArg some (by kernel_rfl))
 f144:=func296.trans (congrArg some (by kernel_rfl))
 f217:=func233.trans (congrArg some (by kernel_rfl))
 f219:=func222.trans (congrArg some (by kernel_rfl))
 f224:=func274.trans (congrArg some (by kernel_rfl))
 f225:=func273.trans (congrArg some (by kernel_rfl))
 f266:=func279.trans (congrArg some (by kernel_rfl))
 f267:=func275.trans (congrArg some (by kernel_rfl))
 f314:=func311.trans (congrArg some (by kernel_rfl))
 t3:=underlying3
 a3:=isAgg3
 z3:=sizeOf3
 v3:=zeroValue3
 t4:=underlying4
 a4:=isAgg4
 z4:=sizeOf4
 v4:=zeroValue4
 t5:=underlying5
 a5:=isAgg5
 z5:=sizeOf5
 v5:=zeroValue5
 t9:=underlying9
 a9:=isAgg9
 z9:=sizeOf9
 v9:=zeroValue9
 t46:=underlying86
 a46:=isAgg86
 z46:=sizeOf86
 v46:=zeroValue86
 t51:=underlying250
 a51:=isAgg250
 z51:=sizeOf250
 v51:=zeroValue250
 t146:=underlying251
 a146:=isAgg251
 z146:=sizeOf251
 v146:=zeroValue251
 g1:=by kernel_rfl }
open Go.RowKit Go.Lib in
theorem Tryz.strings_Contains_one(s:ByteArray)(c:UInt8)(w:World) :
  Calls prog 296 #[.string s,.string ⟨#[c]⟩] w fun e w'=>e=.returned (.bool (decide (0<=Lib.indexByte s.data.toList c)))/\w'=w:=Any.strings_Contains_one lays144 s c w
def Tryz.lays145_ren:Go.Shelf.Ren:=⟨fun|145=>78|220=>150|219=>222|217=>233|225=>273|224=>274|267=>275|266=>279|314=>311|n=>n,fun|9=>9|4=>4|59=>93|3=>3|5=>5|46=>86|146=>251|51=>250|n=>n,fun|1=>0|n=>n⟩
theorem lays145:Go.Proofs.Lays.n145 prog Tryz.lays145_ren:={
 mixed:=by kernel_rfl
 f145:=func78.trans (congrArg some (by kernel_rfl))
 f217:=func233.trans (congrArg some (by kernel_rfl))
 f219:=func222.trans (congrArg some (by kernel_rfl))
 f220:=func150.trans (congrArg some (by kernel_rfl))
 f224:=func274.trans (congrArg some (by kernel_rfl))
 f225:=func273.trans (congrArg some (by kernel_rfl))
 f266:=func279.trans (congrArg some (by kernel_rfl))
 f267:=func275.trans (congrArg some (by kernel_rfl))
 f314:=func311.trans (congrArg some (by kernel_rfl))
 t3:=underlying3
 a3:=isAgg3
 z3:=sizeOf3
 v3:=zeroValue3
 t4:=underlying4
 a4:=isAgg4
 z4:=sizeOf4
 v4:=zeroValue4
 t5:=underlying5
 a5:=isAgg5
 z5:=sizeOf5
 v5:=zeroValue5
 t9:=underlying9
 a9:=isAgg9
 z9:=sizeOf9
 v9:=zeroValue9
 t46:=underlying86
 a46:=isAgg86
 z46:=sizeOf86
 v46:=zeroValue86
 t51:=underlying250
 a51:=isAgg250
 z51:=sizeOf250
 v51:=zeroValue250
 t59:=underlying93
 a59:=isAgg93
 z59:=sizeOf93
 v59:=zeroValue93
 t146:=underlying251
 a146:=isAgg251
 z146:=sizeOf251
 v146:=zeroValue251
 g1:=by kernel_rfl }
open Go.RowKit Go.Lib in
theorem Tryz.strings_Cut(s sep:ByteArray)(m:Int)(w:World)(hs:s.size<4294967281)(hm:w.cell? ⟨0,0,none⟩=some (.int .i64 m)) :
  Calls prog 78 #[.string s,.string sep] w fun e w'=>e=.returned (.tuple #[.string ⟨(Lib.cut s.data.toList sep.data.toList).1.toArray⟩,.string ⟨(Lib.cut s.data.toList sep.data.toList).2.1.toArray⟩,.bool (Lib.cut s.data.toList sep.data.toList).2.2])/\∃n,w'=w.drewN n:=Any.strings_Cut lays145 s sep m w hs hm
def Tryz.lays138_ren:Go.Shelf.Ren:=⟨fun|138=>157|195=>225|218=>227|143=>158|219=>222|217=>233|225=>273|224=>274|267=>275|266=>279|314=>311|n=>n,fun|9=>9|3=>3|4=>4|5=>5|0=>0|46=>86|146=>251|51=>250|n=>n,fun|1=>0|n=>n⟩
theorem lays138:Go.Proofs.Lays.n138 prog Tryz.lays138_ren:={
 mixed:=by kernel_rfl
 f138:=func157.trans (congrArg some (by kernel_rfl))
 f143:=func158.trans (congrArg some (by kernel_rfl))
 f195:=func225.trans (congrArg some (by kernel_rfl))
 f217:=func233.trans (congrArg some (by kernel_rfl))
 f218:=func227.trans (congrArg some (by kernel_rfl))
 f219:=func222.trans (congrArg some (by kernel_rfl))
 f224:=func274.trans (congrArg some (by kernel_rfl))
 f225:=func273.trans (congrArg some (by kernel_rfl))
 f266:=func279.trans (congrArg some (by kernel_rfl))
 f267:=func275.trans (congrArg some (by kernel_rfl))
 f314:=func311.trans (congrArg some (by kernel_rfl))
 t0:=underlying0
 a0:=isAgg0
 z0:=sizeOf0
 v0:=zeroValue0
 t3:=underlying3
 a3:=isAgg3
 z3:=sizeOf3
 v3:=zeroValue3
 t4:=underlying4
 a4:=isAgg4
 z4:=sizeOf4
 v4:=zeroValue4
 t5:=underlying5
 a5:=isAgg5
 z5:=sizeOf5
 v5:=zeroValue5
 t9:=underlying9
 a9:=isAgg9
 z9:=sizeOf9
 v9:=zeroValue9
 t46:=underlying86
 a46:=isAgg86
 z46:=sizeOf86
 v46:=zeroValue86
 t51:=underlying250
 a51:=isAgg250
 z51:=sizeOf250
 v51:=zeroValue250
 t146:=underlying251
 a146:=isAgg251
 z146:=sizeOf251
 v146:=zeroValue251
 g1:=by kernel_rfl }
open Go.RowKit Go.Lib in
theorem Tryz.strings_Count_one(s:ByteArray)(c:UInt8)(w:World) :
  Calls prog 157 #[.string s,.string ⟨#[c]⟩] w fun e w'=>e=.returned (.int .i64 (Lib.countByte s.data.toList c))/\w'=w:=Any.strings_Count_one lays138 s c w
def Tryz.lays148_ren:Go.Shelf.Ren:=⟨fun|148=>149|222=>220|223=>221|269=>272|n=>n,fun|9=>9|3=>3|4=>4|5=>5|146=>251|51=>250|46=>86|n=>n,fun|n=>n⟩
theorem lays148:Go.Proofs.Lays.n148 prog Tryz.lays148_ren:={
 mixed:=by kernel_rfl
 f148:=func149.trans (congrArg some (by kernel_rfl))
 f222:=func220.trans (congrArg some (by kernel_rfl))
 f223:=func221.trans (congrArg some (by kernel_rfl))
 f269:=func272.trans (congrArg some (by kernel_rfl))
 t3:=underlying3
 a3:=isAgg3
 z3:=sizeOf3
 v3:=zeroValue3
 t4:=underlying4
 a4:=isAgg4
 z4:=sizeOf4
 v4:=zeroValue4
 t5:=underlying5
 a5:=isAgg5
 z5:=sizeOf5
 v5:=zeroValue5
 t9:=underlying9
 a9:=isAgg9
 z9:=sizeOf9
 v9:=zeroValue9
 t46:=underlying86
 a46:=isAgg86
 z46:=sizeOf86
 v46:=zeroValue86
 t51:=underlying250
 a51:=isAgg250
 z51:=sizeOf250
 v51:=zeroValue250
 t146:=underlying251
 a146:=isAgg251
 z146:=sizeOf251
 v146:=zeroValue251 }
open Go.RowKit Go.Lib in
theorem Tryz.strings_LastIndex_one(s sub:ByteArray)(h1:sub.size=1)(hs:s.size<4611686018427387904)(w:World) :
  Calls prog 149 #[.string s,.string sub] w fun e w'=>e=.returned (.int .i64 (Lib.lastIndexByte s ((sub[0]'(by omega)).toNat:Int)))/\w'=w:=Any.strings_LastIndex_one lays148 s sub h1 hs w
def Tryz.lays99_ren:Go.Shelf.Ren:=⟨fun|99=>240|206=>231|n=>n,fun|9=>9|4=>4|3=>3|n=>n,fun|n=>n⟩
theorem lays99:Go.Proofs.Lays.n99 prog Tryz.lays99_ren:={
 mixed:=by kernel_rfl
 f99:=func240.trans (congrArg some (by kernel_rfl))
 f206:=func231.trans (congrArg some (by kernel_rfl))
 t3:=underlying3
 a3:=isAgg3
 z3:=sizeOf3
 v3:=zeroValue3
 t4:=underlying4
 a4:=isAgg4
 z4:=sizeOf4
 v4:=zeroValue4
 t9:=underlying9
 a9:=isAgg9
 z9:=sizeOf9
 v9:=zeroValue9 }
open Go.RowKit Go.Lib in
theorem Tryz.strings_HasPrefix(s p:ByteArray)(w:World) :
  Calls prog 240 #[.string s,.string p] w fun e w'=>e=.returned (.bool (Lib.hasPrefix s.data.toList p.data.toList))/\w'=w:=Any.strings_HasPrefix lays99 s p w
def Tryz.lays100_ren:Go.Shelf.Ren:=⟨fun|100=>98|207=>184|n=>n,fun|9=>9|4=>4|3=>3|n=>n,fun|n=>n⟩
theorem lays100:Go.Proofs.Lays.n100 prog Tryz.lays100_ren:={
 mixed:=by kernel_rfl
 f100:=func98.trans (congrArg some (by kernel_rfl))
 f207:=func184.trans (congrArg some (by kernel_rfl))
 t3:=underlying3
 a3:=isAgg3
 z3:=sizeOf3
 v3:=zeroValue3
 t4:=underlying4
 a4:=isAgg4
 z4:=sizeOf4
 v4:=zeroValue4
 t9:=underlying9
 a9:=isAgg9
 z9:=sizeOf9
 v9:=zeroValue9 }
open Go.RowKit Go.Lib in
theorem Tryz.strings_HasSuffix(s p:ByteArray)(w:World)(hs:s.size<=9223372036854775807) :
  Calls prog 98 #[.string s,.string p] w fun e w'=>e=.returned (.bool (Lib.hasSuffix s.data.toList p.data.toList))/\w'=w:=Any.strings_HasSuffix lays100 s p w hs
def Tryz.lays102_ren:Go.Shelf.Ren:=⟨fun|102=>203|209=>250|207=>184|n=>n,fun|9=>9|4=>4|3=>3|n=>n,fun|n=>n⟩
theorem lays102:Go.Proofs.Lays.n102 prog Tryz.lays102_ren:={
 mixed:=by kernel_rfl
 f102:=func203.trans (congrArg some (by kernel_rfl))
 f207:=func184.trans (congrArg some (by kernel_rfl))
 f209:=func250.trans (congrArg some (by kernel_rfl))
 t3:=underlying3
 a3:=isAgg3
 z3:=sizeOf3
 v3:=zeroValue3
 t4:=underlying4
 a4:=isAgg4
 z4:=sizeOf4
 v4:=zeroValue4
 t9:=underlying9
 a9:=isAgg9
 z9:=sizeOf9
 v9:=zeroValue9 }
open Go.RowKit Go.Lib in
theorem Tryz.strings_TrimSuffix(s p:ByteArray)(w:World)(hs:s.size<=9223372036854775807) :
  Calls prog 203 #[.string s,.string p] w fun e w'=>e=.returned (.string ⟨(Lib.trimSuffix s.data.toList p.data.toList).toArray⟩)/\w'=w:=Any.strings_TrimSuffix lays102 s p w hs
def Tryz.lays146_ren:Go.Shelf.Ren:=⟨fun|146=>38|221=>81|268=>156|138=>157|143=>158|195=>225|197=>226|218=>227|219=>222|260=>276|217=>233|225=>273|224=>274|267=>275|266=>279|314=>311|n=>n,fun|9=>9|31=>26|3=>3|4=>4|0=>0|105=>218|21=>21|5=>5|46=>86|119=>280|139=>283|138=>282|146=>251|51=>250|n=>n,fun|1=>0|3=>1|4=>2|n=>n⟩
theorem lays146:Go.Proofs.Lays.n146 prog Tryz.lays146_ren:={
 mixed:=by kernel_rfl
 f138:=func157.trans (congrArg some (by kernel_rfl))
 f143:=func158.trans (congrArg some (by kernel_rfl))
 f146:=func38.trans (congrArg some (by kernel_rfl))
 f195:=func225.trans (congrArg some (by kernel_rfl))
 f197:=func226.trans (congrArg some (by kernel_rfl))
 f217:=func233.trans (congrArg some (by kernel_rfl))
 f218:=func227.trans (congrArg some (by kernel_rfl))
 f219:=func222.trans (congrArg some (by kernel_rfl))
 f221:=func81.trans (congrArg some (by kernel_rfl))
 f224:=func274.trans (congrArg some (by kernel_rfl))
 f225:=func273.trans (congrArg some (by kernel_rfl))
 f260:=func276.trans (congrArg some (by kernel_rfl))
 f266:=func279.trans (congrArg some (by kernel_rfl))
 f267:=func275.trans (congrArg some (by kernel_rfl))
 f268:=func156.trans (congrArg some (by kernel_rfl))
 f314:=func311.trans (congrArg some (by kernel_rfl))
 t0:=underlying0
 a0:=isAgg0
 z0:=sizeOf0
 v0:=zeroValue0
 t3:=underlying3
 a3:=isAgg3
 z3:=sizeOf3
 v3:=zeroValue3
 t4:=underlying4
 a4:=isAgg4
 z4:=sizeOf4
 v4:=zeroValue4
 t5:=underlying5
 a5:=isAgg5
 z5:=sizeOf5
 v5:=zeroValue5
 t9:=underlying9
 a9:=isAgg9
 z9:=sizeOf9
 v9:=zeroValue9
 t21:=underlying21
 a21:=isAgg21
 z21:=sizeOf21
 v21:=zeroValue21
 t31:=underlying26
 a31:=isAgg26
 z31:=sizeOf26
 v31:=zeroValue26
 t46:=underlying86
 a46:=isAgg86
 z46:=sizeOf86
 v46:=zeroValue86
 t51:=underlying250
 a51:=isAgg250
 z51:=sizeOf250
 v51:=zeroValue250
 t105:=underlying218
 a105:=isAgg218
 z105:=sizeOf218
 v105:=zeroValue218
 t119:=underlying280
 a119:=isAgg280
 z119:=sizeOf280
 t138:=underlying282
 a138:=isAgg282
 z138:=sizeOf282
 v138:=zeroValue282
 t139:=underlying283
 a139:=isAgg283
 z139:=sizeOf283
 v139:=zeroValue283
 t146:=underlying251
 a146:=isAgg251
 z146:=sizeOf251
 v146:=zeroValue251
 g1:=by kernel_rfl
 g3:=by kernel_rfl
 g4:=by kernel_rfl }
open Go.RowKit Go.Lib in
theorem Tryz.strings_Split(s sep:ByteArray)(m:Int)(w:World)(hs:s.size<4294967281)(hm:w.cell? ⟨0,0,none⟩=some (.int .i64 m))(h1:1<=sep.size) :
  Calls prog 38 #[.string s,.string sep] w fun e w' =>
   e=.returned (.slice (some ⟨w.heap.size,0,none⟩) (Lib.countB s sep+1) (Lib.countB s sep+1))/\w'=w.alloc (.cells ((Lib.splitB sep 0 (Lib.countB s sep) s).map Value.string).toArray 9):=Any.strings_Split lays146 (by kernel_rfl) s sep m w hs hm h1
def Tryz.lays155_ren:Go.Shelf.Ren:=⟨fun|155=>174|154=>232|138=>157|165=>236|143=>158|166=>99|197=>226|169=>100|195=>225|218=>227|240=>185|241=>280|219=>222|260=>276|276=>242|277=>313|217=>233|225=>273|224=>274|267=>275|266=>279|314=>311|n=>n,fun|9=>9|3=>3|4=>4|72=>127|0=>0|76=>130|105=>218|21=>21|5=>5|70=>124|20=>20|37=>125|75=>129|127=>196|164=>227|46=>86|119=>280|139=>283|138=>282|146=>251|51=>250|80=>74|n=>n,fun|1=>0|3=>1|4=>2|n=>n⟩
theorem lays155:Go.Proofs.Lays.n155 prog Tryz.lays155_ren:={
 mixed:=by kernel_rfl
 f138:=func157.trans (congrArg some (by kernel_rfl))
 f143:=func158.trans (congrArg some (by kernel_rfl))
 f154:=func232.trans (congrArg some (by kernel_rfl))
 f155:=func174.trans (congrArg some (by kernel_rfl))
 f165:=func236.trans (congrArg some (by kernel_rfl))
 f166:=func99.trans (congrArg some (by kernel_rfl))
 f169:=func100.trans (congrArg some (by kernel_rfl))
 f195:=func225.trans (congrArg some (by kernel_rfl))
 f197:=func226.trans (congrArg some (by kernel_rfl))
 f217:=func233.trans (congrArg some (by kernel_rfl))
 f218:=func227.trans (congrArg some (by kernel_rfl))
 f219:=func222.trans (congrArg some (by kernel_rfl))
 f224:=func274.trans (congrArg some (by kernel_rfl))
 f225:=func273.trans (congrArg some (by kernel_rfl))
 f240:=func185.trans (congrArg some (by kernel_rfl))
 f241:=func280.trans (congrArg some (by kernel_rfl))
 f260:=func276.trans (congrArg some (by kernel_rfl))
 f266:=func279.trans (congrArg some (by kernel_rfl))
 f267:=func275.trans (congrArg some (by kernel_rfl))
 f276:=func242.trans (congrArg some (by kernel_rfl))
 f277:=func313.trans (congrArg some (by kernel_rfl))
 f314:=func311.trans (congrArg some (by kernel_rfl))
 t0:=underlying0
 a0:=isAgg0
 z0:=sizeOf0
 v0:=zeroValue0
 t3:=underlying3
 a3:=isAgg3
 z3:=sizeOf3
 v3:=zeroValue3
 t4:=underlying4
 a4:=isAgg4
 z4:=sizeOf4
 v4:=zeroValue4
 t5:=underlying5
 a5:=isAgg5
 z5:=sizeOf5
 v5:=zeroValue5
 t9:=underlying9
 a9:=isAgg9
 z9:=sizeOf9
 v9:=zeroValue9
 t20:=underlying20
 a20:=isAgg20
 z20:=sizeOf20
 v20:=zeroValue20
 t21:=underlying21
 a21:=isAgg21
 z21:=sizeOf21
 v21:=zeroValue21
 t37:=underlying125
 a37:=isAgg125
 z37:=sizeOf125
 v37:=zeroValue125
 t46:=underlying86
 a46:=isAgg86
 z46:=sizeOf86
 v46:=zeroValue86
 t51:=underlying250
 a51:=isAgg250
 z51:=sizeOf250
 v51:=zeroValue250
 t70:=underlying124
 a70:=isAgg124
 z70:=sizeOf124
 v70:=zeroValue124
 t72:=underlying127
 a72:=isAgg127
 z72:=sizeOf127
 v72:=zeroValue127
 t75:=underlying129
 a75:=isAgg129
 z75:=sizeOf129
 v75:=zeroValue129
 t76:=underlying130
 a76:=isAgg130
 z76:=sizeOf130
 v76:=zeroValue130
 t105:=underlying218
 a105:=isAgg218
 z105:=sizeOf218
 v105:=zeroValue218
 t119:=underlying280
 a119:=isAgg280
 z119:=sizeOf280
 t127:=underlying196
 a127:=isAgg196
 z127:=sizeOf196
 v127:=zeroValue196
 t138:=underlying282
 a138:=isAgg282
 z138:=sizeOf282
 v138:=zeroValue282
 t139:=underlying283
 a139:=isAgg283
 z139:=sizeOf283
 v139:=zeroValue283
 t146:=underlying251
 a146:=isAgg251
 z146:=sizeOf251
 v146:=zeroValue251
 t164:=underlying227
 a164:=isAgg227
 z164:=sizeOf227
 v164:=zeroValue227
 g1:=by kernel_rfl
 g3:=by kernel_rfl
 g4:=by kernel_rfl }
theorem Tryz.Builder_Extra_155:Builder.Extra prog Tryz.lays155_ren:={
 sizeBuilder:=by kernel_rfl
 liesBuilder:=by kernel_rfl
 t5:=underlying5
 a5:=isAgg5
 z5:=sizeOf5
 v5:=zeroValue5
 infoByte:=by kernel_rfl
 cellsByte:=by kernel_rfl
 sizeByte:=by kernel_rfl
 neB5:=by decide }
open Go.RowKit Go.Lib in
theorem Tryz.strings_ReplaceAll(s old new:ByteArray)(m:Int)(w:World)(hs:s.size<4294967281)(hm:w.cell? ⟨0,0,none⟩=some (.int .i64 m))(h1:1<=old.size)(hlen:s.size+Lib.countB s old*new.size<=140737488355328) :
  Calls prog 174 #[.string s,.string old,.string new] w fun e w' =>
   e=.returned (.string ⟨(Lib.replaceAll s.data.toList old.data.toList new.data.toList).toArray⟩)/\Below w.heap.size w w':=Any.strings_ReplaceAll lays155 Tryz.Builder_Extra_155 s old new m w hs hm h1 hlen
def Tryz.lays105_ren:Go.Shelf.Ren:=⟨fun|105=>181|212=>239|99=>240|165=>236|166=>99|170=>241|169=>100|263=>283|264=>284|206=>231|240=>185|241=>280|276=>242|277=>313|n=>n,fun|9=>9|3=>3|4=>4|20=>20|0=>0|46=>86|109=>224|5=>5|72=>127|76=>130|51=>250|146=>251|53=>257|148=>258|70=>124|37=>125|75=>129|127=>196|164=>227|80=>74|n=>n,fun|n=>n⟩
theorem lays105:Go.Proofs.Lays.n105 prog Tryz.lays105_ren:={
 mixed:=by kernel_rfl
 f99:=func240.trans (congrArg some (by kernel_rfl))
 f105:=func181.trans (congrArg some (by kernel_rfl))
 f165:=func236.trans (congrArg some (by kernel_rfl))
 f166:=func99.trans (congrArg some (by kernel_rfl))
 f169:=func100.trans (congrArg some (by kernel_rfl))
 f170:=func241.trans (congrArg some (by kernel_rfl))
 f206:=func231.trans (congrArg some (by kernel_rfl))
 f212:=func239.trans (congrArg some (by kernel_rfl))
 f240:=func185.trans (congrArg some (by kernel_rfl))
 f241:=func280.trans (congrArg some (by kernel_rfl))
 f263:=func283.trans (congrArg some (by kernel_rfl))
 f264:=func284.trans (congrArg some (by kernel_rfl))
 f276:=func242.trans (congrArg some (by kernel_rfl))
 f277:=func313.trans (congrArg some (by kernel_rfl))
 t0:=underlying0
 a0:=isAgg0
 z0:=sizeOf0
 v0:=zeroValue0
 t3:=underlying3
 a3:=isAgg3
 z3:=sizeOf3
 v3:=zeroValue3
 t4:=underlying4
 a4:=isAgg4
 z4:=sizeOf4
 v4:=zeroValue4
 t5:=underlying5
 a5:=isAgg5
 z5:=sizeOf5
 v5:=zeroValue5
 t9:=underlying9
 a9:=isAgg9
 z9:=sizeOf9
 v9:=zeroValue9
 t20:=underlying20
 a20:=isAgg20
 z20:=sizeOf20
 v20:=zeroValue20
 t37:=underlying125
 a37:=isAgg125
 z37:=sizeOf125
 v37:=zeroValue125
 t46:=underlying86
 a46:=isAgg86
 z46:=sizeOf86
 v46:=zeroValue86
 t51:=underlying250
 a51:=isAgg250
 z51:=sizeOf250
 v51:=zeroValue250
 t53:=underlying257
 a53:=isAgg257
 z53:=sizeOf257
 v53:=zeroValue257
 t70:=underlying124
 a70:=isAgg124
 z70:=sizeOf124
 v70:=zeroValue124
 t72:=underlying127
 a72:=isAgg127
 z72:=sizeOf127
 v72:=zeroValue127
 t75:=underlying129
 a75:=isAgg129
 z75:=sizeOf129
 v75:=zeroValue129
 t76:=underlying130
 a76:=isAgg130
 z76:=sizeOf130
 v76:=zeroValue130
 t109:=underlying224
 a109:=isAgg224
 z109:=sizeOf224
 v109:=zeroValue224
 t127:=underlying196
 a127:=isAgg196
 z127:=sizeOf196
 v127:=zeroValue196
 t146:=underlying251
 a146:=isAgg251
 z146:=sizeOf251
 v146:=zeroValue251
 t148:=underlying258
 a148:=isAgg258
 z148:=sizeOf258
 v148:=zeroValue258
 t164:=underlying227
 a164:=isAgg227
 z164:=sizeOf227
 v164:=zeroValue227 }
open Go.RowKit Go.Lib in
theorem Tryz.strings_Repeat_zero(s:ByteArray)(w:World) :
  Calls prog 181 #[.string s,.int .i64 0] w fun e w'=>e=.returned (.string ⟨#[]⟩)/\w'=w:=Any.strings_Repeat_zero lays105 s w
open Go.RowKit Go.Lib in
theorem Tryz.strings_Repeat_one(s:ByteArray)(w:World) :
  Calls prog 181 #[.string s,.int .i64 1] w fun e w'=>e=.returned (.string s)/\w'=w:=Any.strings_Repeat_one lays105 s w
def Tryz.lays229_ren:Go.Shelf.Ren:=⟨fun|229=>266|n=>n,fun|9=>9|40=>246|31=>26|152=>277|3=>3|0=>0|4=>4|21=>21|154=>279|n=>n,fun|n=>n⟩
theorem lays229:Go.Proofs.Lays.n229 prog Tryz.lays229_ren:={
 mixed:=by kernel_rfl
 f229:=func266.trans (congrArg some (by kernel_rfl))
 t0:=underlying0
 a0:=isAgg0
 z0:=sizeOf0
 v0:=zeroValue0
 t3:=underlying3
 a3:=isAgg3
 z3:=sizeOf3
 v3:=zeroValue3
 t4:=underlying4
 a4:=isAgg4
 z4:=sizeOf4
 v4:=zeroValue4
 t9:=underlying9
 a9:=isAgg9
 z9:=sizeOf9
 v9:=zeroValue9
 t21:=underlying21
 a21:=isAgg21
 z21:=sizeOf21
 v21:=zeroValue21
 t31:=underlying26
 a31:=isAgg26
 z31:=sizeOf26
 v31:=zeroValue26
 t40:=underlying246
 a40:=isAgg246
 z40:=sizeOf246
 v40:=zeroValue246
 t152:=underlying277
 a152:=isAgg277
 z152:=sizeOf277
 v152:=zeroValue277
 t154:=underlying279
 a154:=isAgg279
 z154:=sizeOf279
 v154:=zeroValue279 }
open Go.RowKit Go.Lib in
theorem Tryz.strings_FieldsFunc(g:Nat)(lb:Array Value)(eg:∀args w,(callFunc g args).run prog w=.ok (.enter g args) w)(p:Nat->Bool)(s:ByteArray)(w:World)(hs:s.size<=4294967296)(hp:PredAt prog g lb encR p w) :
  Calls prog 266 #[.string s,.func (.func g) #[] lb] w fun e w'=>∃A,e=.returned (.slice (some ⟨A,0,none⟩) (Lib.goFieldsP p s).length (Lib.goFieldsP p s).length)/\w.heap.size<=A/\
   w'.ownsRow w.heap.size 9 1 (.slice (some ⟨A,0,none⟩) (Lib.goFieldsP p s).length (Lib.goFieldsP p s).length) (Lib.goFieldsP p s).length ((Lib.goFieldsP p s).map Value.string)/\Below w.heap.size w w':=Any.strings_FieldsFunc lays229 g lb eg p s w hs hp (by kernel_rfl) (by kernel_rfl)
def Tryz.lays107_ren:Go.Shelf.Ren:=⟨fun|107=>213|108=>268|n=>n,fun|28=>24|3=>3|4=>4|0=>0|n=>n,fun|n=>n⟩
theorem lays107:Go.Proofs.Lays.n107 prog Tryz.lays107_ren:={
 mixed:=by kernel_rfl
 f107:=func213.trans (congrArg some (by kernel_rfl))
 f108:=func268.trans (congrArg some (by kernel_rfl))
 t0:=underlying0
 a0:=isAgg0
 z0:=sizeOf0
 v0:=zeroValue0
 t3:=underlying3
 a3:=isAgg3
 z3:=sizeOf3
 v3:=zeroValue3
 t4:=underlying4
 a4:=isAgg4
 z4:=sizeOf4
 v4:=zeroValue4
 t28:=underlying24
 a28:=isAgg24
 z28:=sizeOf24
 v28:=zeroValue24 }
open Go.Lib in
theorem Tryz.slices_Contains_int(b off n c:Nat)(zs:List Int)(x:Int)(w:World)(hz:n<=zs.length)(hbig:n<=9223372036854775807)(hc:∀j,j<zs.length->w.cell? ⟨b,off+j,none⟩=some (.int .i64 (zs.getD j 0))) :
  Calls prog 213 #[.slice (some ⟨b,off,none⟩) n c,.int .i64 x] w fun e w'=>e=.returned (.bool ((zs.take n).contains x))/\w'=w:=Any.slices_Contains_int lays107 b off n c zs x w hz hbig hc
open Go.Lib in
theorem Tryz.slices_Contains_int_empty(a:Option Addr)(c:Nat)(x:Int)(w:World) :
  Calls prog 213 #[.slice a 0 c,.int .i64 x] w fun e w'=>e=.returned (.bool false)/\w'=w:=Any.slices_Contains_int_empty lays107 a c x w
def Tryz.lays109_ren:Go.Shelf.Ren:=⟨fun|109=>139|n=>n,fun|31=>26|9=>9|3=>3|0=>0|4=>4|n=>n,fun|n=>n⟩
theorem lays109:Go.Proofs.Lays.n109 prog Tryz.lays109_ren:={
 mixed:=by kernel_rfl
 f109:=func139.trans (congrArg some (by kernel_rfl))
 t0:=underlying0
 a0:=isAgg0
 z0:=sizeOf0
 v0:=zeroValue0
 t3:=underlying3
 a3:=isAgg3
 z3:=sizeOf3
 v3:=zeroValue3
 t4:=underlying4
 a4:=isAgg4
 z4:=sizeOf4
 v4:=zeroValue4
 t9:=underlying9
 a9:=isAgg9
 z9:=sizeOf9
 v9:=zeroValue9
 t31:=underlying26
 a31:=isAgg26
 z31:=sizeOf26
 v31:=zeroValue26 }
open Go.Lib in
theorem Tryz.slices_Index_string(b off n c:Nat)(zs:List ByteArray)(x:ByteArray)(w:World)(hz:n<=zs.length)(hbig:n<=9223372036854775807)(hc:∀j,j<zs.length->w.cell? ⟨b,off+j,none⟩=some (.string (zs.getD j ByteArray.empty))) :
  Calls prog 139 #[.slice (some ⟨b,off,none⟩) n c,.string x] w fun e w'=>e=.returned (.int .i64 (Lib.idxOfS (zs.take n) x))/\w'=w:=Any.slices_Index_string lays109 b off n c zs x w hz hbig hc
open Go.Lib in
theorem Tryz.slices_Index_string_empty(a:Option Addr)(c:Nat)(x:ByteArray)(w:World) :
  Calls prog 139 #[.slice a 0 c,.string x] w fun e w'=>e=.returned (.int .i64 (Lib.idxOfS [] x))/\w'=w:=Any.slices_Index_string_empty lays109 a c x w
def Tryz.lays110_ren:Go.Shelf.Ren:=⟨fun|110=>253|109=>139|n=>n,fun|31=>26|9=>9|4=>4|3=>3|0=>0|n=>n,fun|n=>n⟩
theorem lays110:Go.Proofs.Lays.n110 prog Tryz.lays110_ren:={
 mixed:=by kernel_rfl
 f109:=func139.trans (congrArg some (by kernel_rfl))
 f110:=func253.trans (congrArg some (by kernel_rfl))
 t0:=underlying0
 a0:=isAgg0
 z0:=sizeOf0
 v0:=zeroValue0
 t3:=underlying3
 a3:=isAgg3
 z3:=sizeOf3
 v3:=zeroValue3
 t4:=underlying4
 a4:=isAgg4
 z4:=sizeOf4
 v4:=zeroValue4
 t9:=underlying9
 a9:=isAgg9
 z9:=sizeOf9
 v9:=zeroValue9
 t31:=underlying26
 a31:=isAgg26
 z31:=sizeOf26
 v31:=zeroValue26 }
open Go.Lib in
theorem Tryz.slices_Contains_string(b off n c:Nat)(zs:List ByteArray)(x:ByteArray)(w:World)(hz:n<=zs.length)(hbig:n<=9223372036854775807)(hc:∀j,j<zs.length->w.cell? ⟨b,off+j,none⟩=some (.string (zs.getD j ByteArray.empty))) :
  Calls prog 253 #[.slice (some ⟨b,off,none⟩) n c,.string x] w fun e w'=>e=.returned (.bool (Lib.containsS (zs.take n) x))/\w'=w:=Any.slices_Contains_string lays110 b off n c zs x w hz hbig hc
open Go.Lib in
theorem Tryz.slices_Contains_string_empty(a:Option Addr)(c:Nat)(x:ByteArray)(w:World) :
  Calls prog 253 #[.slice a 0 c,.string x] w fun e w'=>e=.returned (.bool false)/\w'=w:=Any.slices_Contains_string_empty lays110 a c x w
def Tryz.lays113_ren:Go.Shelf.Ren:=⟨fun|113=>73|n=>n,fun|28=>24|3=>3|4=>4|9=>9|20=>20|0=>0|n=>n,fun|n=>n⟩
theorem lays113:Go.Proofs.Lays.n113 prog Tryz.lays113_ren:={
 mixed:=by kernel_rfl
 f113:=func73.trans (congrArg some (by kernel_rfl))
 t0:=underlying0
 a0:=isAgg0
 z0:=sizeOf0
 v0:=zeroValue0
 t3:=underlying3
 a3:=isAgg3
 z3:=sizeOf3
 v3:=zeroValue3
 t4:=underlying4
 a4:=isAgg4
 z4:=sizeOf4
 v4:=zeroValue4
 t9:=underlying9
 a9:=isAgg9
 z9:=sizeOf9
 v9:=zeroValue9
 t20:=underlying20
 a20:=isAgg20
 z20:=sizeOf20
 v20:=zeroValue20
 t28:=underlying24
 a28:=isAgg24
 z28:=sizeOf24
 v28:=zeroValue24 }
open Go.Lib in
theorem Tryz.slices_Max_int(b off n c:Nat)(zs:List Int)(w:World)(hn:0<n)(hz:n<=zs.length)(hbig:n<=9223372036854775807)(hc:∀j,j<zs.length->w.cell? ⟨b,off+j,none⟩=some (.int .i64 (zs.getD j 0))) :
  Calls prog 73 #[.slice (some ⟨b,off,none⟩) n c] w fun e w'=>e=.returned (.int .i64 (Lib.maxOf (zs.take n)))/\w'=w:=Any.slices_Max_int lays113 b off n c zs w hn hz hbig hc
def Tryz.laysSlE041_f171_ren:Go.Shelf.Ren:=⟨fun|41=>171|n=>n,fun|22=>26|23=>9|4=>4|n=>n,fun|n=>n⟩
theorem Tryz.laysSlE041_f171:Go.Proofs.SlLaysE0.n41 prog Tryz.laysSlE041_f171_ren:={
 mixed:=by kernel_rfl
 f41:=⟨Tryz.f171.name,by decide,func171.trans (congrArg some (by kernel_rfl))⟩
 t4:=underlying4
 a4:=isAgg4
 z4:=sizeOf4
 v4:=zeroValue4
 t22:=underlying26
 a22:=isAgg26
 z22:=sizeOf26
 v22:=zeroValue26 }
open Go.RowKit Go.Lib in
theorem Tryz.slices_Clone(i0:TypeInfo)(z:Value)(size bytes:Nat)(hi:prog.info? 9=some i0)(hz0:i0.zero=some z)(hz1:i0.size=size)(hz2:i0.bytes=bytes)(hzs:z.cells.size=size)(hsz:0<size)(z23:∀w,(Go.sizeOf 9).run prog w=.ok size w)(b off n c:Nat)(news:List Value)(w:World)(hl:news.length=n*size)(hn:n<=maxLen)(hbig:n*bytes<=140737488355328)(hc:∀j u,news[j]?=some u->w.cell? ⟨b,off+j,none⟩=some u)(h1:∀u∈news,u.oneCell'=true) :
  Calls prog 171 #[.slice (some ⟨b,off,none⟩) n c] w fun e w'=>∃v',e=.returned v'/\w'.ownsRow w.heap.size 9 size v' n news/\v'≠.slice none 0 0/\Below w.heap.size w w':=AnyE.slices_Clone Tryz.laysSlE041_f171 i0 z size bytes hi hz0 hz1 hz2 hzs hsz z23 b off n c news w hl hn hbig hc h1
end Go.Proofs
namespace Go.Proofs.YtmgmbeipbeknaaaGreatDoor
open Go.Proofs.Tryz
open Go Go.RowKit
set_option linter.unusedVariables false
set_option linter.unusedSimpArgs false
set_option maxHeartbeats 16000000
set_option maxRecDepth 100000
theorem Zfy{w:World}{base k:Nat}{e:TypeId}{g n cap:Nat}{xs:List Value}(h:w.ownsRow base e k (.slice (some ⟨g,0,none⟩) n cap) n xs)(j:Nat)(hj:j<xs.length)(y:Value) :
  (w.setCell ⟨g,j,none⟩ y).ownsRow base e k (.slice (some ⟨g,0,none⟩) n cap) n (xs.set j y)/\(∃x,w.cell? ⟨g,j,none⟩=some x)/\w.frozen? ⟨g,j,none⟩=false/\base<=g/\g<w.heap.size/\(∃s,w.shape? g=some (e,s)):=by
 have hl:xs.length=n*k:=h.1;rcases h.2 with ⟨h0,_⟩|⟨g',cap',cur,hv,hb,hg,hnc,hcm,hcs,ht⟩
 ·cases h0
 ·injection hv with e1 e2 e3
  injection e1 with e1
  injection e1 with e1 _ _
  subst e1;subst e3;have hsz:j<cur.size:=by
   have:=congrArg List.length ht
   rw [List.length_take,Array.length_toList] at this;omega
  refine ⟨⟨by simp [hl],.inr ⟨g,cap,cur.setIfInBounds j y,rfl,hb,heap_setCell hg j y,hnc,hcm,by simpa using hcs,?_⟩⟩,⟨cur[j],by simp [World.cell?,hg,hsz]⟩,by simp [World.frozen?,hg],hb,Zb hg,⟨cur.size,by simp [World.shape?,hg]⟩⟩;rw [Array.toList_setIfInBounds,List.take_set,ht]
theorem ZhK:(prog.info? 9).map (fun i=>(i.zero,i.size,i.bytes))=some (some (.string ⟨#[]⟩),1,16):=k_
def Zp0(w:World)(B:Nat)(k:ZM)(words:List Str):Prop:=k.wn=words.length/\w.ownsRow B 9 1 (.slice k.wa k.wn k.wc) k.wn (Zr words)
theorem ZmO{w w':World}{P B B' k n:Nat}{e e':TypeId}{v:Value}{xs:List Value}(h:w.ownsRow B' e' k v n xs)(hf:FrB P B e w w')(he:e'≠e)(hP:v.ownBlock≠some P):w'.ownsRow B' e' k v n xs:=by
 refine ⟨h.1,?_⟩;rcases h.2 with hn|⟨g,cap,cur,rfl,hg,hgg,rest⟩
 ·exact .inl hn
 ·refine .inr ⟨g,cap,cur,rfl,hg,?_,rest⟩
  exact hf.heap hgg (fun q=>hP (by simp [Value.ownBlock,q])) he
theorem ZoW(P B:Nat)(sec:Str)(kinds:Int)(kvs:List ZM)(name:Str)(WB wc:Nat)(words:List Str)(w:World)(hG:Xl w P B sec kinds kvs)(hPB:P<B)(hBw:B<=w.heap.size)
  (hW:w.heap[WB]?=some (.cells (Zr words).toArray 9 (0,0))) (hl:words.length<=100) (hk:kvs.length<=90) :
  Calls prog 89 #[.pointer (some ⟨P,0,none⟩),.string ⟨name.toArray⟩,.slice (some ⟨WB,0,none⟩) words.length wc] w fun e w'=>e=.returned (.tuple #[])/\∃k:ZM,(k.sec=sec/\k.name=name/\k.form=10/\k.list=false/\k.kinds=kinds)/\Zp0 w' w.heap.size k words/\Xl w' P B sec kinds (kvs++[k])/\FrB P B 82 w w':=by
 obtain ⟨i0,hi0,hz0,hz1,hz2⟩:=info_parts ZhK;have hb1:=(Below.refl w.heap.size w).alloc l_ (.cells #[.string ⟨name.toArray⟩] 9);have HS:=h_ (Zjh P B sec kinds 10 false kvs w.heap.size 1 [name] (w.alloc (.cells #[.string ⟨name.toArray⟩] 9)) (hG.below hb1) hPB (Nat.le_trans hBw hb1.size) (heap_alloc_new w _) s_ o_);have HW:=h_ hW;have HWP:=h_ (show WB≠P from by rintro rfl;obtain ⟨ga,gc,h1,_⟩:=hG.ex;rw [hW] at h1;simp at h1);have HB1:=h_ hb1;have HW1:=h_ (Za hW hb1);clear hG hW hb1;go_enter func89,ntmps89;go_wp2_with fail;refine HS.out.mono ?_;rintro e w2 ⟨rfl,hg2,hf2⟩;have hf0:FrB P B 82 w w2:=FrB.trans (show FrB P B 82 w (w.alloc (.cells #[.string ⟨name.toArray⟩] 9)) from Fr.of_below HB1.out _) hf2;have HF2:=h_ hf0;have HW2:=h_ (hf2.heap HW1.out HWP.out d_);obtain ⟨ga,gc,hbx,hown⟩:=hg2.ex;have HBX:=h_ hbx;have HOW:=h_ hown;have hln:(kvs++[name].map (XR sec kinds 10 false)).length=kvs.length+1:=s_;rw [hln] at HBX HOW;obtain ⟨g,gc',e3,hcell,hBg,hglt⟩:=Zm5 HOW.out o_;injection e3 with e3 _ e4
 subst e3;subst e4;have HC:=h_ (fun V (h:V.os=V.os\/True) (hc:∀j u,(Zr words)[j]?=some u->V.cell? ⟨WB,0+j,none⟩=some u)=>Tryz.slices_Clone i0 (.string ⟨#[]⟩) 1 16 hi0 hz0 hz1 hz2 n13_ d_ (fun w=>by rfl) WB 0 words.length wc (Zr words) V (by simp [Zr]) n23_ o_ hc (Zjs _));have HST:=h_ (Zfy HOW.out (kvs.length*6+5) (by rw [HOW.out.1];omega));have hflat:ZA Zp (kvs++[name].map (XR sec kinds 10 false))=ZA Zp kvs++Zp (XR sec kinds 10 false name):=by rw [ZN];simp [ZA]
 have HFL:=h_ hflat;have hgP:g≠P:=o_;have i1:(kvs.length:Int)<=90:=o_;have i2:IntKind.i64.wrap (kvs.length:Int)=(kvs.length:Int):=IntWalk.i64_in _ o_;clear hf2 hf0 hg2 hbx hown hcell hln hflat HS HW1;go_wp2_with fail;refine Zh (S:=fun V=>V.heap[P]?=some (.cells #[.string ⟨sec.toArray⟩,.int .i64 kinds,.slice (some ⟨g,0,none⟩) (kvs.length+1) gc] 115 (0,0))/\Below w2.heap.size w2 V) 12 k_ k_ ⟨HBX.out,Zd ⟨1,rfl⟩⟩ (fun hHeld=>?_);refine u_ ?_;(iterate 11 refine dN_ 0 (gT_ rfl) (fun W hW=>by obtain ⟨q0,q1,q2⟩:=cells3 hW.1;clear hW;go_simp;rfl) (u_ ?_));refine Zn (i:=11) (gT_ rfl) k_ k_ (fun K hK=>?_);clear hHeld;rw [if_pos n13_];go_simp;refine (HC.out _ (.inr trivial) (fun j u hj=>by rw [Nat.zero_add];show w2.cell? ⟨WB,j,none⟩=some u;rw [(rd HW2.out).1 j,List.getElem?_toArray];exact hj)).mono ?_;rintro e w3 ⟨v3,rfl,ho3,hne3,hb3⟩;obtain ⟨wa3,wc3,rfl⟩:=ownsRow_form ho3;have HB3:=h_ ((show Below w2.heap.size w2 w2.drew from Zd ⟨1,rfl⟩).trans hb3);have HO3:=h_ (show w3.ownsRow w2.heap.size 9 1 (.slice wa3 words.length wc3) words.length (Zr words) from ho3);clear ho3 hne3 hb3;refine hK.out _ _ ⟨Za HBX.out HB3.out,HB3.out⟩ (fun hHeld=>?_);clear hK K;refine u_ ?_;refine Zv k_ ?_;clear hHeld;obtain ⟨hset,⟨ox,hox⟩,hfz,-,-,hshape⟩:=Zfy (Zq HOW.out HB3.out) (kvs.length*6+5) (by rw [HOW.out.1];omega) (.slice wa3 words.length wc3);obtain ⟨sh,hshape⟩:=hshape;go_wp2_with fail;refine ⟨rfl,_,results_none rfl _ _ _,rfl,⟨sec,name,10,false,kinds,wa3,words.length,wc3⟩,⟨rfl,rfl,rfl,rfl,rfl⟩,⟨rfl,?_⟩,⟨some ⟨g,0,none⟩,gc,?_,?_⟩,?_⟩
 ·have hne:(Value.slice wa3 words.length wc3).ownBlock≠some g:=by
   intro q
   have:=(World.ownsRow.lt HO3.out g q).1
   omega
  have h1:(w3.setCell ⟨g,kvs.length*6+5,none⟩ (.slice wa3 words.length wc3)).ownsRow w2.heap.size 9 1 (.slice wa3 words.length wc3) words.length (Zr words):=by
   refine ⟨HO3.out.1,?_⟩;rcases HO3.out.2 with hn|⟨g2,cp,cur,hv,hg2,hgg,rest⟩
   ·exact .inl hn
   ·refine .inr ⟨g2,cp,cur,hv,hg2,Zw hgg (a:=⟨g,kvs.length*6+5,none⟩) (by show g2≠g;omega) _,rest⟩
  refine ⟨h1.1,?_⟩;rcases h1.2 with hn|⟨g2,cp,cur,hv,hg2,hgg,rest⟩
  ·exact .inl hn
  ·exact .inr ⟨g2,cp,cur,hv,by have:=HF2.out.size;omega,hgg,rest⟩
 ·rw [List.length_append]
  exact Zw (Za HBX.out HB3.out) (a:=⟨g,kvs.length*6+5,none⟩) (by show P≠g;omega) _
 ·have e1:(ZA Zp (kvs++[name].map (XR sec kinds 10 false))).set (kvs.length*6+5) (.slice wa3 words.length wc3)=ZA Zp (kvs++[⟨sec,name,10,false,kinds,wa3,words.length,wc3⟩]):=by
   rw [HFL.out,ZN,XG];have hlk:(ZA Zp kvs).length=kvs.length*6:=YC (enc:=Zp) (k:=6) (fun _=>rfl) kvs;rw [List.set_append_right _ _ o_,hlk,show kvs.length*6+5-kvs.length*6=5 by omega];rfl
  have e2:(kvs++[(⟨sec,name,10,false,kinds,wa3,words.length,wc3⟩:ZM)]).length=kvs.length+1:=s_;rw [e1] at hset;rw [e2];exact hset
 ·have f3:FrB P B 82 w w3:=HF2.out.trans (show FrB P B 82 w2 w3 from Fr.of_below HB3.out _)
  refine Fr.setCell f3 (p:=⟨g,kvs.length*6+5,none⟩) (fun hgw=>.inr ⟨hBg,?_⟩) _;obtain ⟨cs,fz,hh⟩:=(Qg HOW.out g rfl).2;by_cases hm:g=P\/(B<=g/\Zbu 82 w g)
  ·rcases hm with h|h
   ·omega
   ·exact h.2
  ·exact ⟨cs,fz,by rw [<-HF2.out.block g hgw hm];exact hh⟩
theorem Zcp{P:Program}{w:World}{ops:Array Oper}{rest:List Oper}{o:Oper}{a:Act}{Q:Exit->Act->World->Prop}(hw:Region.wanted o (yielded ops a.tmps)=true)(s x:Operand)(t t2:TypeId)
  (ho:o.op=.call { callee:=.builtin .append,args:=#[s,x],argTypes:=#[t,t2] }) {v xv v':Value} {w':World} (hr:(Builtin.append_ #[t,t2] o.type #[v,xv]).run P w=.ok v' w') (hs:a.eval s=v) (hx:a.eval x=xv)
  (h:wpList P ops Q rest (a.put o.dst v') w'):wpList P ops Q (o::rest) a w:=by
 refine wpList_step fun K hK=>?_
 rw [if_pos hw];unfold Oper.wp execOp;simp only [ho,resolve,invoke,builtin,Sem.run_bind,Sem.run_pure,Result.andThen_ok,List.map_toArray,List.map_cons,List.map_nil,hs,hx,hr];exact hK _ _ h
def ZpZ(w:World)(l:List ZM)(e:Ending)(w':World):Prop:=∃v,e=.returned v/\w'.ownsRow w.heap.size 82 6 v l.length (ZA Zp l)/\Below w.heap.size w w'
theorem Znf(n:Nat)(w:World)(hn:n<1073741824):Calls prog 172 #[.slice none 0 0,.int .i64 n] w fun e w'=>∃v,e=.returned v/\w'.ownsRow w.heap.size 82 6 v 0 []/\Below w.heap.size w w':=by
 obtain ⟨i0,hi0,hz0,hz1,hz2⟩:=info_parts Zie;by_cases h0:n=0
 ·subst h0
  go_enter func172,ntmps172;go_wp2_with fail;go_ret;exact ⟨_,rfl,World.ownsRow_nil _ _ _ _,Below.refl _ _⟩
 ·have hrun:∀ty,(Builtin.append_ #[79,3] ty #[.slice none 0 0,.int .i64 (n:Int)]).run prog w=.ok (.slice (some ⟨w.heap.size,0,none⟩) (0+n) (grownCap w (0+n) 0 82)) (w.drew.alloc (.cells (#[]++Builtin.zeroCells (Value.agg #[.string ⟨#[]⟩,.string ⟨#[]⟩,.int .i64 0,.bool false,.int .i64 0,.slice none 0 0]).cells n++Builtin.zeroCells (Value.agg #[.string ⟨#[]⟩,.string ⟨#[]⟩,.int .i64 0,.bool false,.int .i64 0,.slice none 0 0]).cells (grownCap w (0+n) 0 82-(0+n))) 82)):=fun ty=>
   Lib.run_append_grow_zeros w 79 3 ty 82 i0 (.agg #[.string ⟨#[]⟩,.string ⟨#[]⟩,.int .i64 0,.bool false,.int .i64 0,.slice none 0 0]) .i64 .i64 underlying79 underlying3 hi0 hz0 none 0 0 [] (run_firstCells_none w.drew i0.size 0 0 0) n o_ o_ o_ o_ (by rw [hz2];omega) (growslice_fits o_ (by rw [hz2];omega))
  have hG:=grownCap_ge w (0+n) 0 82;have hM:=grownCap_le_maxLen w (0+n) 0 82 n23_;generalize grownCap w (0+n) 0 82=G at *;have HR:=h_ hrun;have hown:(w.drew.alloc (.cells (#[]++Builtin.zeroCells (Value.agg #[.string ⟨#[]⟩,.string ⟨#[]⟩,.int .i64 0,.bool false,.int .i64 0,.slice none 0 0]).cells n++Builtin.zeroCells (Value.agg #[.string ⟨#[]⟩,.string ⟨#[]⟩,.int .i64 0,.bool false,.int .i64 0,.slice none 0 0]).cells (G-(0+n))) 82)).ownsRow w.heap.size 82 6 (.slice (some ⟨w.heap.size,0,none⟩) 0 G) 0 []:=by
   refine ⟨rfl,.inr ⟨w.heap.size,G,_,rfl,l_,heap_alloc_new w.drew _,Nat.zero_le _,hM,?_,s_⟩⟩;simp [Builtin.zeroCells,Value.cells];omega
  have HO:=h_ hown;have HB:=h_ ((show Below w.heap.size w w.drew from Zd ⟨1,rfl⟩).alloc l_ (.cells (#[]++Builtin.zeroCells (Value.agg #[.string ⟨#[]⟩,.string ⟨#[]⟩,.int .i64 0,.bool false,.int .i64 0,.slice none 0 0]).cells n++Builtin.zeroCells (Value.agg #[.string ⟨#[]⟩,.string ⟨#[]⟩,.int .i64 0,.bool false,.int .i64 0,.slice none 0 0]).cells (G-(0+n))) 82));clear hrun hown;have h1:¬((n:Int)<0):=o_;have h2:wrap64 ((n:Int)-0)=(n:Int):=by unfold wrap64;omega
  have h2b:wrap64 (n:Int)=(n:Int):=by unfold wrap64;omega
  have h4:(n:Int)>0:=o_;have h5:(0:Int)<n:=h4;have hM2:(G:Int)<=9223372036854775807:=by unfold maxLen at hM;omega
  generalize hw1:w.drew.alloc _=w1 at *;clear hw1;go_enter func172,ntmps172;go_wp2_with (at_builtin;refine Zcp rfl _ _ 79 3 rfl (HR.out _) rfl rfl ?_);go_ret;exact ⟨_,rfl,HO.out,HB.out⟩
structure ZjJ(w:World)(G:Nat)(ls:List (List ZM)):Prop where
 lt:G<w.heap.size
 row:∀k (h:k<ls.length),∃oa cap,w.cell? ⟨G,k,none⟩=some (.slice oa ls[k].length cap)/\Zx Zp 6 w oa ls[k]
theorem ZjJ.below{w w':World}{G:Nat}{ls:List (List ZM)}(h:ZjJ w G ls)(hb:Below w.heap.size w w'):ZjJ w' G ls:=
 ⟨Nat.lt_of_lt_of_le h.lt hb.size,fun k hk=>by obtain ⟨oa,cap,h1,h2⟩:=h.row k hk;exact ⟨oa,cap,by rw [hb.cell h.lt];exact h1,h2.below hb⟩⟩
theorem Zba(ls:List (List ZM))(k:Nat)(h:k<ls.length):(ls.take (k+1)).flatten=(ls.take k).flatten++ls[k]:=by
 rw [List.take_succ_eq_append_getElem h,List.flatten_append];simp
theorem ZcP(ls:List (List ZM))(k:Nat):(ls.take k).flatten.length<=ls.flatten.length:=by
 have:ls.flatten=(ls.take k).flatten++(ls.drop k).flatten:=by rw [<-List.flatten_append,List.take_append_drop]
 rw [this,List.length_append];omega
theorem Zi8(G cap0:Nat)(ls:List (List ZM))(w:World)(hr:ZjJ w G ls)(hl:ls.length<1000)(hs:ls.flatten.length<1073741824) :
  Calls prog 90 #[.slice (some ⟨G,0,none⟩) ls.length cap0] w fun e w'=>ZpZ w ls.flatten e w':=by
 obtain ⟨i0,hi0,hz0,hz1,hz2⟩:=info_parts Zie;have HR:=h_ hr;clear hr;have HS:=h_ hs;go_enter func90,ntmps90;go_wp2_with fail;go_loopg [3,11] (ls.length+1) (fun f n i wr=>∃k:Nat,k<=ls.length/\i=.int .i64 k/\n=.int .i64 ((ls.take k).flatten.length:Nat)/\ls.length-k<f/\w=wr)
 case atStart=>exact ⟨0,o_,rfl,s_,o_,rfl⟩
 case round=>
  obtain ⟨k,hk,rfl,rfl,hfu,rfl⟩:=hrel;by_cases hlt:k<ls.length
  ·obtain ⟨oa,cap,hc,-⟩:=HR.out.row k hlt
   have hN:=Zba ls k hlt;have hle:=ZcP ls (k+1);have hlen:(ls.take (k+1)).flatten.length=(ls.take k).flatten.length+ls[k].length:=by rw [hN,List.length_append]
   rw [hlen] at hle;have HL:=h_ hlen;clear hN hlen;generalize (ls.take k).flatten.length=a at *;generalize ls[k].length=b at *;have i5:(k:Int)<(ls.length:Int):=o_;have h2:wrap64 ((a:Int)+(b:Int))=(a:Int)+(b:Int):=by unfold wrap64;omega
   have h3:¬((a:Int)+(b:Int)<0):=o_;go_wp2_with fail;go_roundg (gk-1)
   case measure=>omega
   case rel=>exact ⟨k+1,o_,n14_,by rw [HL.out];go_num,o_,rfl⟩
  ·have hke:k=ls.length:=o_
   subst hke;rw [List.take_length];have hge:¬((ls.length:Int)<(ls.length:Int)):=o_;have HG:=h_ (Znf ls.flatten.length w hs);generalize hFN:ls.flatten.length=N at HG⊢;have HFN:=h_ hFN;clear hFN;go_wp2_with fail;refine HG.out.mono ?_;rintro e w1 ⟨v0,rfl,ho,hb⟩;obtain ⟨ao,cap1,rfl⟩:=ownsRow_form ho;have HO:=h_ ho;have HB:=h_ hb;clear ho hb HG hfu hk hlt;go_wp2_with fail;go_loopg [6,27] (ls.length+1) (fun f v i w2=>∃k:Nat,k<=ls.length/\i=.int .i64 k/\ls.length-k<f/\Hid (w2.ownsRow w.heap.size 82 6 v (ls.take k).flatten.length (ZA Zp (ls.take k).flatten))/\Hid (Below w.heap.size w w2))
   case atStart=>exact ⟨0,o_,rfl,o_,HO,HB⟩
   case round=>
    obtain ⟨k,hk,rfl,hfu,Hown,Hb⟩:=hrel;clear HO HB;obtain ⟨oa',cap',rfl⟩:=ownsRow_form Hown.out;by_cases hlt:k<ls.length
    ·obtain ⟨oa,cap,hc,hrow⟩:=(HR.out.below Hb.out).row k hlt
     have hN:=Zba ls k hlt;have hle:=Nat.lt_of_le_of_lt (ZcP ls (k+1)) HS.out;rw [hN,List.length_append] at hle;have HN:=h_ hN;have i5:(k:Int)<(ls.length:Int):=o_;obtain ⟨v',w3,hrun,hown,hgrow⟩:=Xf w.heap.size 79 79 82 i0 (.agg #[.string ⟨#[]⟩,.string ⟨#[]⟩,.int .i64 0,.bool false,.int .i64 0,.slice none 0 0]) 6 80 underlying79 hi0 hz0 hz1 hz2 rfl d_ _ _ _ Hown.out oa ls[k].length cap (ZA Zp ls[k]) (by rw [YC (enc:=Zp) (k:=6) (fun _=>rfl)]) (Zx.flat (enc:=Zp) (k:=6) (fun _=>rfl) o_ hrow) (Yt Zkz _) n23_ o_ Hb.out.size;have HRUN:=h_ hrun;have HB3:=h_ (Hb.out.grown hgrow Hb.out.size (fun g hg=>(Hown.out.lt g hg).1));have HO3:=h_ (show w3.ownsRow w.heap.size 82 6 v' (ls.take (k+1)).flatten.length (ZA Zp (ls.take (k+1)).flatten) by rw [hN,List.length_append,ZN];exact hown);clear hrun hown hgrow hN hrow;go_wp2_with (at_builtin;refine wpList_append_run rfl _ _ 79 rfl HRUN.out rfl rfl ?_);obtain ⟨ao,cap2,rfl⟩:=ownsRow_form HO3.out;go_roundg (gk-1)
     case measure=>omega
     case rel=>exact ⟨k+1,o_,n14_,o_,HO3,HB3⟩
    ·have hke:k=ls.length:=o_
     subst hke;have hge:¬((ls.length:Int)<(ls.length:Int)):=o_;have HO3:=h_ (by have:=Hown.out;rw [List.take_length] at this;exact this);clear Hown;rw [List.take_length];generalize hFL:ls.flatten=FL at HO3⊢;have HFL:=h_ hFL;clear hFL;go_wp2_with fail;go_ret;exact ⟨_,rfl,by rw [HFL.out];exact HO3.out,Hb.out⟩
end Go.Proofs.YtmgmbeipbeknaaaGreatDoor

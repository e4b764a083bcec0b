import Derived.Shelf.Strings.Builder1
import Derived.Shelf.Strings.Builder2
import Derived.Shelf.Strings.OnBuilder
import Derived.Shelf.Strings.Trim
import Derived.Shelf.Small.Utf8
import Derived.Shelf.Small.Strs
import Derived.Shelf.Small.Wraps
import Derived.Shelf.Strings.BuilderF
import Derived.Shelf.Strconv.Atoi
import Derived.Shelf.Strconv.Itoa0
import Derived.Shelf.Strconv.Itoa1
import Derived.Shelf.LaysM
import Derived.Shelf.Strconv.Itoa2
import Derived.Shelf.Strconv.Itoa3
import Derived.Shelf.Strconv.AtoiErrFast
import Derived.Shelf.Strconv.ParseIntEmpty
import Derived.Shelf.Strconv.AtoiFail
import Derived.Shelf.Strconv.Clone
import Derived.Shelf.Strconv.SyntaxError
import Derived.Shelf.LaysC
import Derived.Shelf.Strconv.ToError
import Derived.Shelf.Strconv.Lower
import Derived.Shelf.Strconv.ParseUint10
import Derived.Shelf.Strconv.ParseUint10Empty
import Derived.Shelf.Strconv.ParseUint10Any
import Derived.Shelf.Strconv.ParseInt10
import Derived.Shelf.Strconv.AtoiLong
import Derived.Shelf.Strconv.AtoiInnerAll
import Derived.Shelf.Strconv.RangeError
import Derived.Shelf.Strconv.ToErrorRange
import Derived.Shelf.Strconv.AtoiAll
import Derived.Shelf.Strconv.ErrVarAll
import Derived.Shelf.Strconv.ParseUintEmpty
import Derived.Shelf.Strconv.ParseUint10b64
import Derived.Shelf.Strconv.ParseUint10b32
import Derived.Shelf.Strconv.ParseUint10b16
import Derived.Shelf.Strconv.ParseUint10b8
import Derived.Shelf.Strconv.ParseUint10At
import Derived.Shelf.Strconv.ParseInt10At64
import Derived.Shelf.Strconv.ParseInt10At32
import Derived.Shelf.Strconv.ParseInt10At16
import Derived.Shelf.Strconv.ParseInt10At8
import Derived.Shelf.Strconv.ParseInt10All
import Derived.Shelf.Strings.Search1
import Derived.Shelf.Strings.Search2
import Derived.Shelf.Strings.Search3
import Derived.Shelf.Strings.Cut
import Derived.Shelf.Strings.Count
import Derived.Shelf.Strings.Shaped
import Derived.Shelf.Strings.LastIndex
import Derived.Shelf.Strings.LastIndexAll
import Derived.Shelf.Strings.Prefix
import Derived.Shelf.Strings.Split
import Derived.Shelf.Strings.Replace
import Derived.Shelf.Strings.SplitShaped
import Derived.Shelf.Strings.Runes
import Derived.Shelf.Strings.AsciiSet
import Derived.Shelf.Bits.Mul64
import Derived.Shelf.Strings.Repeat
import Derived.Shelf.Unicode.DecodeSlow
import Derived.Shelf.Unicode.DecodeAny
import Derived.Shelf.Unicode.DecodeLast
import Derived.Shelf.Strings.FieldsFuncAny
import Derived.Shelf.Strings.FieldsFuncGrows
import Derived.Shelf.Slices.Turned
import Derived.Ground.SlgnProg
import Derived.Shelf.SlicesE.Equal
import Derived.Shelf.SlicesE.Clone
import Derived.Ground.PaProg
import Derived.Shelf.Path.Small
import Derived.Test.YtmgmbeipbeknaaaGreatDoorProg
import Derived.Shelf.SlGeneric
import Derived.Shelf.SlicesQ.IndexFunc
import Derived.Shelf.SlicesQ.Equal
import Derived.Ground.SlgfProg
import Derived.Ground.SlgqProg
import Derived.Lib.AppendZerosOnto
import Derived.Lib.SliceRun
import Derived.Deep.QuietTactic
import Derived.BigQuiet
import Derived.BigRegion
import Derived.Lib.Hide
import Derived.Test.YtmgmbeipbeknaaaGreatDoorRB2
import Derived.Test.YtmgmbeipbeknaaaGreatDoorRB4
namespace Go.Proofs
open Go.Proofs.Tryz
open Go.Shelf
set_option linter.all false
set_option maxHeartbeats 16000000
theorem y_{p:Prop}(h:p:=by constructor<;>first|(intro _;kernel_rfl)|kernel_rfl|decide|(constructor<;>first|(intro _;kernel_rfl)|kernel_rfl|decide)):p:=h
def Tryz.findKey_ren:Go.Shelf.Ren:=⟨fun|6=>133|n=>n,fun|22=>79|23=>82|25=>153|3=>3|0=>0|4=>4|n=>n,fun|n=>n⟩
theorem Tryz.findKey:Go.Proofs.SlLaysH0.n6 prog Tryz.findKey_ren:=by constructor;(case f6=>exact ⟨Tryz.f133.name,by decide,func133.trans (congrArg some (by kernel_rfl))⟩);all_goals first|(intro _;kernel_rfl)|kernel_rfl|decide|(constructor<;>first|(intro _;kernel_rfl)|kernel_rfl|decide)
def Tryz.hasKey_ren:Go.Shelf.Ren:=⟨fun|8=>129|6=>133|n=>n,fun|22=>79|23=>82|25=>153|4=>4|3=>3|0=>0|n=>n,fun|n=>n⟩
theorem Tryz.hasKey:Go.Proofs.SlLaysH0.n8 prog Tryz.hasKey_ren:=by constructor;(case f6=>exact ⟨Tryz.f133.name,by decide,func133.trans (congrArg some (by kernel_rfl))⟩);(case f8=>exact ⟨Tryz.f129.name,by decide,func129.trans (congrArg some (by kernel_rfl))⟩);all_goals first|(intro _;kernel_rfl)|kernel_rfl|decide|(constructor<;>first|(intro _;kernel_rfl)|kernel_rfl|decide)
def Tryz.findPair_ren:Go.Shelf.Ren:=⟨fun|6=>265|n=>n,fun|22=>25|23=>64|25=>208|3=>3|0=>0|4=>4|n=>n,fun|n=>n⟩
theorem Tryz.findPair:Go.Proofs.SlLaysH0.n6 prog Tryz.findPair_ren:=by constructor;(case f6=>exact ⟨Tryz.f265.name,by decide,func265.trans (congrArg some (by kernel_rfl))⟩);all_goals first|(intro _;kernel_rfl)|kernel_rfl|decide|(constructor<;>first|(intro _;kernel_rfl)|kernel_rfl|decide)
def Tryz.findRel_ren:Go.Shelf.Ren:=⟨fun|6=>270|n=>n,fun|22=>22|23=>47|25=>215|3=>3|0=>0|4=>4|n=>n,fun|n=>n⟩
theorem Tryz.findRel:Go.Proofs.SlLaysH0.n6 prog Tryz.findRel_ren:=by constructor;(case f6=>exact ⟨Tryz.f270.name,by decide,func270.trans (congrArg some (by kernel_rfl))⟩);all_goals first|(intro _;kernel_rfl)|kernel_rfl|decide|(constructor<;>first|(intro _;kernel_rfl)|kernel_rfl|decide)
def Tryz.lays156_ren:Go.Shelf.Ren:=⟨fun|156=>178|165=>236|166=>99|169=>100|240=>185|241=>280|276=>242|277=>313|n=>n,fun|31=>26|9=>9|3=>3|4=>4|0=>0|20=>20|72=>127|76=>130|70=>124|37=>125|75=>129|127=>196|164=>227|5=>5|80=>74|n=>n,fun|n=>n⟩
theorem lays156:Go.Proofs.Lays.n156 prog Tryz.lays156_ren:=y_
theorem Tryz.Builder_Extra_156:Builder.Extra prog Tryz.lays156_ren:=y_
open Go.RowKit in
theorem Tryz.strings_Join_none(a:Option Addr)(c:Nat)(sep:ByteArray)(w:World) :
  Calls prog 178 #[.slice a 0 c,.string sep] w fun e w'=>e=.returned (.string ⟨#[]⟩)/\w'=w:=Any.strings_Join_none lays156 Tryz.Builder_Extra_156 a c sep w
open Go.RowKit in
theorem Tryz.strings_Join(bk o c:Nat)(xs:List ByteArray)(sep:ByteArray)(w:World)(hcells:∀(j:Nat) x,xs[j]?=some x->w.cell? ⟨bk,o+j,none⟩=some (.string x))(hbk:bk<w.heap.size)(hN:xs.length<=140737488355328)(hcap:xs.length<=c)(hlen:(Lib.join (xs.map (·.data.toList)) sep.data.toList).length<=140737488355328) :
  Calls prog 178 #[.slice (some ⟨bk,o,none⟩) xs.length c,.string sep] w fun e w'=>e=.returned (.string ⟨(Lib.join (xs.map (·.data.toList)) sep.data.toList).toArray⟩)/\Below w.heap.size w w':=Any.strings_Join lays156 Tryz.Builder_Extra_156 bk o c xs sep w hcells hbk hN hcap hlen
def Tryz.lays160_ren:Go.Shelf.Ren:=⟨fun|160=>82|232=>160|231=>159|227=>161|234=>163|233=>162|236=>165|235=>164|228=>228|271=>230|151=>229|197=>226|120=>278|152=>277|260=>276|137=>175|119=>312|224=>274|225=>273|217=>233|266=>279|n=>n,fun|9=>9|4=>4|3=>3|5=>5|117=>181|116=>180|0=>0|124=>184|21=>21|105=>218|46=>86|119=>280|139=>283|138=>282|n=>n,fun|3=>1|4=>2|n=>n⟩
theorem lays160:Go.Proofs.Lays.n160 prog Tryz.lays160_ren:=y_
def Tryz.lays137_ren:Go.Shelf.Ren:=⟨fun|137=>175|217=>233|266=>279|n=>n,fun|9=>9|5=>5|3=>3|n=>n,fun|n=>n⟩
theorem lays137:Go.Proofs.Lays.n137 prog Tryz.lays137_ren:=y_
open Go.RowKit in
theorem Tryz.strings_IndexByte(s:ByteArray)(c:Int)(w:World) :
  Calls prog 175 #[.string s,.int .u8 c] w fun e w'=>e=.returned (.int .i64 (Lib.indexByte s.data.toList c.toNat.toUInt8))/\w'=w:=Any.strings_IndexByte lays137 s c w
def Tryz.lays103_ren:Go.Shelf.Ren:=⟨fun|103=>84|210=>168|206=>231|n=>n,fun|9=>9|4=>4|24=>111|3=>3|n=>n,fun|n=>n⟩
theorem lays103:Go.Proofs.Lays.n103 prog Tryz.lays103_ren:=y_
open Go.RowKit in
theorem Tryz.strings_CutPrefix(s p:ByteArray)(w:World) :
  Calls prog 84 #[.string s,.string p] w fun e w'=>e=.returned (.tuple #[.string ⟨(Lib.trimPrefix s.data.toList p.data.toList).toArray⟩,.bool (Lib.hasPrefix s.data.toList p.data.toList)])/\w'=w:=Any.strings_CutPrefix lays103 s p w
def Tryz.lays172_ren:Go.Shelf.Ren:=⟨fun|172=>206|244=>258|245=>259|247=>300|279=>301|280=>302|281=>303|282=>304|287=>328|316=>329|171=>238|205=>330|321=>344|322=>345|243=>282|246=>314|283=>332|284=>333|285=>334|286=>335|129=>347|317=>346|318=>348|319=>349|320=>350|337=>357|338=>358|n=>n,fun|9=>9|3=>3|75=>129|76=>130|4=>4|5=>5|167=>270|37=>125|0=>0|85=>271|2=>2|168=>273|53=>257|175=>303|46=>86|210=>306|127=>196|145=>323|143=>321|21=>21|171=>308|173=>311|212=>325|51=>250|20=>20|213=>326|232=>331|233=>332|80=>74|n=>n,fun|15=>3|16=>4|17=>5|18=>6|19=>7|n=>n⟩
theorem lays172:Go.Proofs.Lays.n172 prog Tryz.lays172_ren:=y_
open Go.RowKit in
theorem Tryz.strconv_Atoi(s:ByteArray)(n:Int)(hl:s.size<=18)(h:Lib.atoi s.data.toList=some n)(w:World) :
  Calls prog 206 #[.string s] w fun e w'=>e=.returned (.tuple #[.int .i64 n,.nilIface])/\∃t,w'=Lib.bytesWorld w 5 t:=Any.strconv_Atoi lays172 s n hl h w
def Tryz.laysM171_ren:Go.Shelf.Ren:=⟨fun|171=>238|243=>282|246=>314|283=>332|284=>333|285=>334|286=>335|129=>347|317=>346|318=>348|319=>349|320=>350|337=>357|338=>358|n=>n,fun|3=>3|9=>9|2=>2|4=>4|171=>308|0=>0|53=>257|37=>125|5=>5|173=>311|212=>325|51=>250|20=>20|213=>326|46=>86|232=>331|233=>332|n=>n,fun|17=>5|18=>6|19=>7|n=>n⟩
theorem Tryz.laysM171:Go.Proofs.LaysM.n171 prog Tryz.laysM171_ren:=y_
open Go.RowKit Go.Sort Go.Lib in
theorem Tryz.strconv_Itoa(n:Int)(h0 : -9223372036854775808<=n)(h1:n<=9223372036854775807)(w:World)(htab:Lib.TabIs prog w "internal/strconv.uint64pow10" .u64 Lib.pow10Tab) :
  Calls prog 238 #[.int .i64 n] w fun e w'=>e=.returned (.string ⟨(Lib.itoa n).toArray⟩)/\∃k os,w'=grow (w.drewN k) os:=Any.strconv_Itoa Tryz.laysM171 n h0 h1 w htab
def Tryz.lays143_ren:Go.Shelf.Ren:=⟨fun|143=>158|219=>222|217=>233|225=>273|224=>274|267=>275|266=>279|314=>311|n=>n,fun|9=>9|3=>3|4=>4|5=>5|46=>86|146=>251|51=>250|n=>n,fun|1=>0|n=>n⟩
theorem lays143:Go.Proofs.Lays.n143 prog Tryz.lays143_ren:=y_
open Go.RowKit Go.Lib in
theorem Tryz.strings_Index_one(s:ByteArray)(c:UInt8)(w:World) :
  Calls prog 158 #[.string s,.string ⟨#[c]⟩] w fun e w'=>e=.returned (.int .i64 (Lib.indexByte s.data.toList c))/\w'=w:=Any.strings_Index_one lays143 s c w
def Tryz.lays144_ren:Go.Shelf.Ren:=⟨fun|144=>296|143=>158|219=>222|217=>233|225=>273|224=>274|267=>275|266=>279|314=>311|n=>n,fun|9=>9|4=>4|3=>3|5=>5|46=>86|146=>251|51=>250|n=>n,fun|1=>0|n=>n⟩
theorem lays144:Go.Proofs.Lays.n144 prog Tryz.lays144_ren:=y_
open Go.RowKit Go.Lib in
theorem Tryz.strings_Contains_one(s:ByteArray)(c:UInt8)(w:World) :
  Calls prog 296 #[.string s,.string ⟨#[c]⟩] w fun e w'=>e=.returned (.bool (decide (0<=Lib.indexByte s.data.toList c)))/\w'=w:=Any.strings_Contains_one lays144 s c w
def Tryz.lays145_ren:Go.Shelf.Ren:=⟨fun|145=>78|220=>150|219=>222|217=>233|225=>273|224=>274|267=>275|266=>279|314=>311|n=>n,fun|9=>9|4=>4|59=>93|3=>3|5=>5|46=>86|146=>251|51=>250|n=>n,fun|1=>0|n=>n⟩
theorem lays145:Go.Proofs.Lays.n145 prog Tryz.lays145_ren:=y_
open Go.RowKit Go.Lib in
theorem Tryz.strings_Cut(s sep:ByteArray)(m:Int)(w:World)(hs:s.size<4294967281)(hm:w.cell? ⟨0,0,none⟩=some (.int .i64 m)) :
  Calls prog 78 #[.string s,.string sep] w fun e w'=>e=.returned (.tuple #[.string ⟨(Lib.cut s.data.toList sep.data.toList).1.toArray⟩,.string ⟨(Lib.cut s.data.toList sep.data.toList).2.1.toArray⟩,.bool (Lib.cut s.data.toList sep.data.toList).2.2])/\∃n,w'=w.drewN n:=Any.strings_Cut lays145 s sep m w hs hm
def Tryz.lays138_ren:Go.Shelf.Ren:=⟨fun|138=>157|195=>225|218=>227|143=>158|219=>222|217=>233|225=>273|224=>274|267=>275|266=>279|314=>311|n=>n,fun|9=>9|3=>3|4=>4|5=>5|0=>0|46=>86|146=>251|51=>250|n=>n,fun|1=>0|n=>n⟩
theorem lays138:Go.Proofs.Lays.n138 prog Tryz.lays138_ren:=y_
open Go.RowKit Go.Lib in
theorem Tryz.strings_Count_one(s:ByteArray)(c:UInt8)(w:World) :
  Calls prog 157 #[.string s,.string ⟨#[c]⟩] w fun e w'=>e=.returned (.int .i64 (Lib.countByte s.data.toList c))/\w'=w:=Any.strings_Count_one lays138 s c w
def Tryz.lays148_ren:Go.Shelf.Ren:=⟨fun|148=>149|222=>220|223=>221|269=>272|n=>n,fun|9=>9|3=>3|4=>4|5=>5|146=>251|51=>250|46=>86|n=>n,fun|n=>n⟩
theorem lays148:Go.Proofs.Lays.n148 prog Tryz.lays148_ren:=y_
open Go.RowKit Go.Lib in
theorem Tryz.strings_LastIndex_one(s sub:ByteArray)(h1:sub.size=1)(hs:s.size<4611686018427387904)(w:World) :
  Calls prog 149 #[.string s,.string sub] w fun e w'=>e=.returned (.int .i64 (Lib.lastIndexByte s ((sub[0]'(by omega)).toNat:Int)))/\w'=w:=Any.strings_LastIndex_one lays148 s sub h1 hs w
def Tryz.lays99_ren:Go.Shelf.Ren:=⟨fun|99=>240|206=>231|n=>n,fun|9=>9|4=>4|3=>3|n=>n,fun|n=>n⟩
theorem lays99:Go.Proofs.Lays.n99 prog Tryz.lays99_ren:=y_
open Go.RowKit Go.Lib in
theorem Tryz.strings_HasPrefix(s p:ByteArray)(w:World) :
  Calls prog 240 #[.string s,.string p] w fun e w'=>e=.returned (.bool (Lib.hasPrefix s.data.toList p.data.toList))/\w'=w:=Any.strings_HasPrefix lays99 s p w
def Tryz.lays100_ren:Go.Shelf.Ren:=⟨fun|100=>98|207=>184|n=>n,fun|9=>9|4=>4|3=>3|n=>n,fun|n=>n⟩
theorem lays100:Go.Proofs.Lays.n100 prog Tryz.lays100_ren:=y_
open Go.RowKit Go.Lib in
theorem Tryz.strings_HasSuffix(s p:ByteArray)(w:World)(hs:s.size<=9223372036854775807) :
  Calls prog 98 #[.string s,.string p] w fun e w'=>e=.returned (.bool (Lib.hasSuffix s.data.toList p.data.toList))/\w'=w:=Any.strings_HasSuffix lays100 s p w hs
def Tryz.lays102_ren:Go.Shelf.Ren:=⟨fun|102=>203|209=>250|207=>184|n=>n,fun|9=>9|4=>4|3=>3|n=>n,fun|n=>n⟩
theorem lays102:Go.Proofs.Lays.n102 prog Tryz.lays102_ren:=y_
open Go.RowKit Go.Lib in
theorem Tryz.strings_TrimSuffix(s p:ByteArray)(w:World)(hs:s.size<=9223372036854775807) :
  Calls prog 203 #[.string s,.string p] w fun e w'=>e=.returned (.string ⟨(Lib.trimSuffix s.data.toList p.data.toList).toArray⟩)/\w'=w:=Any.strings_TrimSuffix lays102 s p w hs
def Tryz.lays146_ren:Go.Shelf.Ren:=⟨fun|146=>38|221=>81|268=>156|138=>157|143=>158|195=>225|197=>226|218=>227|219=>222|260=>276|217=>233|225=>273|224=>274|267=>275|266=>279|314=>311|n=>n,fun|9=>9|31=>26|3=>3|4=>4|0=>0|105=>218|21=>21|5=>5|46=>86|119=>280|139=>283|138=>282|146=>251|51=>250|n=>n,fun|1=>0|3=>1|4=>2|n=>n⟩
theorem lays146:Go.Proofs.Lays.n146 prog Tryz.lays146_ren:=y_
open Go.RowKit Go.Lib in
theorem Tryz.strings_Split(s sep:ByteArray)(m:Int)(w:World)(hs:s.size<4294967281)(hm:w.cell? ⟨0,0,none⟩=some (.int .i64 m))(h1:1<=sep.size) :
  Calls prog 38 #[.string s,.string sep] w fun e w' =>
   e=.returned (.slice (some ⟨w.heap.size,0,none⟩) (Lib.countB s sep+1) (Lib.countB s sep+1))/\w'=w.alloc (.cells ((Lib.splitB sep 0 (Lib.countB s sep) s).map Value.string).toArray 9):=Any.strings_Split lays146 (by kernel_rfl) s sep m w hs hm h1
def Tryz.lays155_ren:Go.Shelf.Ren:=⟨fun|155=>174|154=>232|138=>157|165=>236|143=>158|166=>99|197=>226|169=>100|195=>225|218=>227|240=>185|241=>280|219=>222|260=>276|276=>242|277=>313|217=>233|225=>273|224=>274|267=>275|266=>279|314=>311|n=>n,fun|9=>9|3=>3|4=>4|72=>127|0=>0|76=>130|105=>218|21=>21|5=>5|70=>124|20=>20|37=>125|75=>129|127=>196|164=>227|46=>86|119=>280|139=>283|138=>282|146=>251|51=>250|80=>74|n=>n,fun|1=>0|3=>1|4=>2|n=>n⟩
theorem lays155:Go.Proofs.Lays.n155 prog Tryz.lays155_ren:=y_
theorem Tryz.Builder_Extra_155:Builder.Extra prog Tryz.lays155_ren:=y_
open Go.RowKit Go.Lib in
theorem Tryz.strings_ReplaceAll(s old new:ByteArray)(m:Int)(w:World)(hs:s.size<4294967281)(hm:w.cell? ⟨0,0,none⟩=some (.int .i64 m))(h1:1<=old.size)(hlen:s.size+Lib.countB s old*new.size<=140737488355328) :
  Calls prog 174 #[.string s,.string old,.string new] w fun e w' =>
   e=.returned (.string ⟨(Lib.replaceAll s.data.toList old.data.toList new.data.toList).toArray⟩)/\Below w.heap.size w w':=Any.strings_ReplaceAll lays155 Tryz.Builder_Extra_155 s old new m w hs hm h1 hlen
def Tryz.lays105_ren:Go.Shelf.Ren:=⟨fun|105=>181|212=>239|99=>240|165=>236|166=>99|170=>241|169=>100|263=>283|264=>284|206=>231|240=>185|241=>280|276=>242|277=>313|n=>n,fun|9=>9|3=>3|4=>4|20=>20|0=>0|46=>86|109=>224|5=>5|72=>127|76=>130|51=>250|146=>251|53=>257|148=>258|70=>124|37=>125|75=>129|127=>196|164=>227|80=>74|n=>n,fun|n=>n⟩
theorem lays105:Go.Proofs.Lays.n105 prog Tryz.lays105_ren:=y_
open Go.RowKit Go.Lib in
theorem Tryz.strings_Repeat_zero(s:ByteArray)(w:World) :
  Calls prog 181 #[.string s,.int .i64 0] w fun e w'=>e=.returned (.string ⟨#[]⟩)/\w'=w:=Any.strings_Repeat_zero lays105 s w
open Go.RowKit Go.Lib in
theorem Tryz.strings_Repeat_one(s:ByteArray)(w:World) :
  Calls prog 181 #[.string s,.int .i64 1] w fun e w'=>e=.returned (.string s)/\w'=w:=Any.strings_Repeat_one lays105 s w
def Tryz.lays229_ren:Go.Shelf.Ren:=⟨fun|229=>266|n=>n,fun|9=>9|40=>246|31=>26|152=>277|3=>3|0=>0|4=>4|21=>21|154=>279|n=>n,fun|n=>n⟩
theorem lays229:Go.Proofs.Lays.n229 prog Tryz.lays229_ren:=y_
open Go.RowKit Go.Lib in
theorem Tryz.strings_FieldsFunc(g:Nat)(lb:Array Value)(eg:∀args w,(callFunc g args).run prog w=.ok (.enter g args) w)(p:Nat->Bool)(s:ByteArray)(w:World)(hs:s.size<=4294967296)(hp:PredAt prog g lb encR p w) :
  Calls prog 266 #[.string s,.func (.func g) #[] lb] w fun e w'=>∃A,e=.returned (.slice (some ⟨A,0,none⟩) (Lib.goFieldsP p s).length (Lib.goFieldsP p s).length)/\w.heap.size<=A/\
   w'.ownsRow w.heap.size 9 1 (.slice (some ⟨A,0,none⟩) (Lib.goFieldsP p s).length (Lib.goFieldsP p s).length) (Lib.goFieldsP p s).length ((Lib.goFieldsP p s).map Value.string)/\Below w.heap.size w w':=Any.strings_FieldsFunc lays229 g lb eg p s w hs hp (by kernel_rfl) (by kernel_rfl)
def Tryz.lays107_ren:Go.Shelf.Ren:=⟨fun|107=>213|108=>268|n=>n,fun|28=>24|3=>3|4=>4|0=>0|n=>n,fun|n=>n⟩
theorem lays107:Go.Proofs.Lays.n107 prog Tryz.lays107_ren:=y_
open Go.Lib in
theorem Tryz.slices_Contains_int(b off n c:Nat)(zs:List Int)(x:Int)(w:World)(hz:n<=zs.length)(hbig:n<=9223372036854775807)(hc:∀j,j<zs.length->w.cell? ⟨b,off+j,none⟩=some (.int .i64 (zs.getD j 0))) :
  Calls prog 213 #[.slice (some ⟨b,off,none⟩) n c,.int .i64 x] w fun e w'=>e=.returned (.bool ((zs.take n).contains x))/\w'=w:=Any.slices_Contains_int lays107 b off n c zs x w hz hbig hc
open Go.Lib in
theorem Tryz.slices_Contains_int_empty(a:Option Addr)(c:Nat)(x:Int)(w:World) :
  Calls prog 213 #[.slice a 0 c,.int .i64 x] w fun e w'=>e=.returned (.bool false)/\w'=w:=Any.slices_Contains_int_empty lays107 a c x w
def Tryz.lays109_ren:Go.Shelf.Ren:=⟨fun|109=>139|n=>n,fun|31=>26|9=>9|3=>3|0=>0|4=>4|n=>n,fun|n=>n⟩
theorem lays109:Go.Proofs.Lays.n109 prog Tryz.lays109_ren:=y_
open Go.Lib in
theorem Tryz.slices_Index_string(b off n c:Nat)(zs:List ByteArray)(x:ByteArray)(w:World)(hz:n<=zs.length)(hbig:n<=9223372036854775807)(hc:∀j,j<zs.length->w.cell? ⟨b,off+j,none⟩=some (.string (zs.getD j ByteArray.empty))) :
  Calls prog 139 #[.slice (some ⟨b,off,none⟩) n c,.string x] w fun e w'=>e=.returned (.int .i64 (Lib.idxOfS (zs.take n) x))/\w'=w:=Any.slices_Index_string lays109 b off n c zs x w hz hbig hc
open Go.Lib in
theorem Tryz.slices_Index_string_empty(a:Option Addr)(c:Nat)(x:ByteArray)(w:World) :
  Calls prog 139 #[.slice a 0 c,.string x] w fun e w'=>e=.returned (.int .i64 (Lib.idxOfS [] x))/\w'=w:=Any.slices_Index_string_empty lays109 a c x w
def Tryz.lays110_ren:Go.Shelf.Ren:=⟨fun|110=>253|109=>139|n=>n,fun|31=>26|9=>9|4=>4|3=>3|0=>0|n=>n,fun|n=>n⟩
theorem lays110:Go.Proofs.Lays.n110 prog Tryz.lays110_ren:=y_
open Go.Lib in
theorem Tryz.slices_Contains_string(b off n c:Nat)(zs:List ByteArray)(x:ByteArray)(w:World)(hz:n<=zs.length)(hbig:n<=9223372036854775807)(hc:∀j,j<zs.length->w.cell? ⟨b,off+j,none⟩=some (.string (zs.getD j ByteArray.empty))) :
  Calls prog 253 #[.slice (some ⟨b,off,none⟩) n c,.string x] w fun e w'=>e=.returned (.bool (Lib.containsS (zs.take n) x))/\w'=w:=Any.slices_Contains_string lays110 b off n c zs x w hz hbig hc
open Go.Lib in
theorem Tryz.slices_Contains_string_empty(a:Option Addr)(c:Nat)(x:ByteArray)(w:World) :
  Calls prog 253 #[.slice a 0 c,.string x] w fun e w'=>e=.returned (.bool false)/\w'=w:=Any.slices_Contains_string_empty lays110 a c x w
def Tryz.lays113_ren:Go.Shelf.Ren:=⟨fun|113=>73|n=>n,fun|28=>24|3=>3|4=>4|9=>9|20=>20|0=>0|n=>n,fun|n=>n⟩
theorem lays113:Go.Proofs.Lays.n113 prog Tryz.lays113_ren:=y_
open Go.Lib in
theorem Tryz.slices_Max_int(b off n c:Nat)(zs:List Int)(w:World)(hn:0<n)(hz:n<=zs.length)(hbig:n<=9223372036854775807)(hc:∀j,j<zs.length->w.cell? ⟨b,off+j,none⟩=some (.int .i64 (zs.getD j 0))) :
  Calls prog 73 #[.slice (some ⟨b,off,none⟩) n c] w fun e w'=>e=.returned (.int .i64 (Lib.maxOf (zs.take n)))/\w'=w:=Any.slices_Max_int lays113 b off n c zs w hn hz hbig hc
def Tryz.laysSlE041_f171_ren:Go.Shelf.Ren:=⟨fun|41=>171|n=>n,fun|22=>26|23=>9|4=>4|n=>n,fun|n=>n⟩
theorem Tryz.laysSlE041_f171:Go.Proofs.SlLaysE0.n41 prog Tryz.laysSlE041_f171_ren:=by constructor;(case f41=>exact ⟨Tryz.f171.name,by decide,func171.trans (congrArg some (by kernel_rfl))⟩);all_goals first|(intro _;kernel_rfl)|kernel_rfl|decide|(constructor<;>first|(intro _;kernel_rfl)|kernel_rfl|decide)
open Go.RowKit Go.Lib in
theorem Tryz.slices_Clone(i0:TypeInfo)(z:Value)(size bytes:Nat)(hi:prog.info? 9=some i0)(hz0:i0.zero=some z)(hz1:i0.size=size)(hz2:i0.bytes=bytes)(hzs:z.cells.size=size)(hsz:0<size)(z23:∀w,(Go.sizeOf 9).run prog w=.ok size w)(b off n c:Nat)(news:List Value)(w:World)(hl:news.length=n*size)(hn:n<=maxLen)(hbig:n*bytes<=140737488355328)(hc:∀j u,news[j]?=some u->w.cell? ⟨b,off+j,none⟩=some u)(h1:∀u∈news,u.oneCell'=true) :
  Calls prog 171 #[.slice (some ⟨b,off,none⟩) n c] w fun e w'=>∃v',e=.returned v'/\w'.ownsRow w.heap.size 9 size v' n news/\v'≠.slice none 0 0/\Below w.heap.size w w':=AnyE.slices_Clone Tryz.laysSlE041_f171 i0 z size bytes hi hz0 hz1 hz2 hzs hsz z23 b off n c news w hl hn hbig hc h1
end Go.Proofs
namespace Go.Proofs.YtmgmbeipbeknaaaGreatDoor
open Go.Proofs.Tryz
open Go Go.RowKit
set_option linter.all false
set_option maxHeartbeats 16000000
set_option maxRecDepth 100000
theorem Zer{w:World}{base k:Nat}{e:TypeId}{g n cap:Nat}{xs:List Value}(h:w.ownsRow base e k (.slice (some ⟨g,0,none⟩) n cap) n xs)(j:Nat)(hj:j<xs.length)(y:Value) :
  (w.setCell ⟨g,j,none⟩ y).ownsRow base e k (.slice (some ⟨g,0,none⟩) n cap) n (xs.set j y)/\(∃x,w.cell? ⟨g,j,none⟩=some x)/\w.frozen? ⟨g,j,none⟩=false/\base<=g/\g<w.heap.size/\(∃s,w.shape? g=some (e,s)):=by
 have hl:xs.length=n*k:=h.1;rcases h.2 with ⟨h0,_⟩|⟨g',cap',cur,hv,hb,hg,hnc,hcm,hcs,ht⟩
 ·cases h0
 ·injection hv with e1 e2 e3
  injection e1 with e1
  injection e1 with e1 _ _
  subst e1;subst e3;have hsz:j<cur.size:=by
   have:=congrArg List.length ht
   rw [List.length_take,Array.length_toList] at this;omega
  refine ⟨⟨by simp [hl],.inr ⟨g,cap,cur.setIfInBounds j y,rfl,hb,heap_setCell hg j y,hnc,hcm,by simpa using hcs,?_⟩⟩,⟨cur[j],by simp [World.cell?,hg,hsz]⟩,by simp [World.frozen?,hg],hb,Zd hg,⟨cur.size,by simp [World.shape?,hg]⟩⟩;rw [Array.toList_setIfInBounds,List.take_set,ht]
theorem ZkN:(prog.info? 9).map (fun i=>(i.zero,i.size,i.bytes))=some (some (.string ⟨#[]⟩),1,16):=k_
def Zuj(w:World)(B:Nat)(k:ZQ)(words:List Str):Prop:=k.wn=words.length/\w.ownsRow B 9 1 (.slice k.wa k.wn k.wc) k.wn (Zh words)
theorem Zpx{w w':World}{P B B' k n:Nat}{e e':TypeId}{v:Value}{xs:List Value}(h:w.ownsRow B' e' k v n xs)(hf:FrB P B e w w')(he:e'≠e)(hP:v.ownBlock≠some P):w'.ownsRow B' e' k v n xs:=by
 refine ⟨h.1,?_⟩;rcases h.2 with hn|⟨g,cap,cur,rfl,hg,hgg,rest⟩
 ·exact .inl hn
 ·refine .inr ⟨g,cap,cur,rfl,hg,?_,rest⟩
  exact hf.heap hgg (fun q=>hP (by simp [Value.ownBlock,q])) he
theorem Zto(P B:Nat)(sec:Str)(kinds:Int)(kvs:List ZQ)(name:Str)(WB wc:Nat)(words:List Str)(w:World)(hG:Ql w P B sec kinds kvs)(hPB:P<B)(hBw:B<=w.heap.size)
  (hW:w.heap[WB]?=some (.cells (Zh words).toArray 9 (0,0))) (hl:words.length<=100) (hk:kvs.length<=90) :
  Calls prog 89 #[.pointer (some ⟨P,0,none⟩),.string ⟨name.toArray⟩,.slice (some ⟨WB,0,none⟩) words.length wc] w fun e w'=>e=.returned (.tuple #[])/\∃k:ZQ,(k.sec=sec/\k.name=name/\k.form=10/\k.list=false/\k.kinds=kinds)/\Zuj w' w.heap.size k words/\Ql w' P B sec kinds (kvs++[k])/\FrB P B 82 w w':=by
 obtain ⟨i0,hi0,hz0,hz1,hz2⟩:=info_parts ZkN;have hb1:=(Below.refl w.heap.size w).alloc l_ (.cells #[.string ⟨name.toArray⟩] 9);have HS:=h_ (Zm1 P B sec kinds 10 false kvs w.heap.size 1 [name] (w.alloc (.cells #[.string ⟨name.toArray⟩] 9)) (hG.below hb1) hPB (Nat.le_trans hBw hb1.size) (heap_alloc_new w _) s_ o_);have HW:=h_ hW;have HWP:=h_ (show WB≠P from by rintro rfl;obtain ⟨ga,gc,h1,_⟩:=hG.ex;rw [hW] at h1;simp at h1);have HB1:=h_ hb1;have HW1:=h_ (Za hW hb1);clear hG hW hb1;go_enter func89,ntmps89;go_wp2_with fail;refine HS.out.mono ?_;rintro e w2 ⟨rfl,hg2,hf2⟩;have hf0:FrB P B 82 w w2:=FrB.trans (show FrB P B 82 w (w.alloc (.cells #[.string ⟨name.toArray⟩] 9)) from Fr.of_below HB1.out _) hf2;have HF2:=h_ hf0;have HW2:=h_ (hf2.heap HW1.out HWP.out d_);obtain ⟨ga,gc,hbx,hown⟩:=hg2.ex;have HBX:=h_ hbx;have HOW:=h_ hown;have hln:(kvs++[name].map (YZ sec kinds 10 false)).length=kvs.length+1:=s_;rw [hln] at HBX HOW;obtain ⟨g,gc',e3,hcell,hBg,hglt⟩:=Zjz HOW.out o_;injection e3 with e3 _ e4
 subst e3;subst e4;have HC:=h_ (fun V (h:V.os=V.os\/True) (hc:∀j u,(Zh words)[j]?=some u->V.cell? ⟨WB,0+j,none⟩=some u)=>Tryz.slices_Clone i0 (.string ⟨#[]⟩) 1 16 hi0 hz0 hz1 hz2 n18_ d_ (fun w=>by rfl) WB 0 words.length wc (Zh words) V (by simp [Zh]) n23_ o_ hc (Zgu _));have HST:=h_ (Zer HOW.out (kvs.length*6+5) (by rw [HOW.out.1];omega));have hflat:Zx Zm (kvs++[name].map (YZ sec kinds 10 false))=Zx Zm kvs++Zm (YZ sec kinds 10 false name):=by rw [ZT];simp [Zx]
 have HFL:=h_ hflat;have hgP:g≠P:=o_;have i1:(kvs.length:Int)<=90:=o_;have i2:IntKind.i64.wrap (kvs.length:Int)=(kvs.length:Int):=IntWalk.i64_in _ o_;clear hf2 hf0 hg2 hbx hown hcell hln hflat HS HW1;go_wp2_with fail;refine Zk (S:=fun V=>V.heap[P]?=some (.cells #[.string ⟨sec.toArray⟩,.int .i64 kinds,.slice (some ⟨g,0,none⟩) (kvs.length+1) gc] 115 (0,0))/\Below w2.heap.size w2 V) 12 k_ k_ ⟨HBX.out,Ze ⟨1,rfl⟩⟩ (fun hHeld=>?_);refine u_ ?_;(iterate 11 refine dN_ 0 (gT_ rfl) (fun W hW=>by obtain ⟨q0,q1,q2⟩:=cells3 hW.1;clear hW;go_simp;rfl) (u_ ?_));refine Zu (i:=11) (gT_ rfl) k_ k_ (fun K hK=>?_);clear hHeld;rw [if_pos n18_];go_simp;refine (HC.out _ (.inr trivial) (fun j u hj=>by rw [Nat.zero_add];show w2.cell? ⟨WB,j,none⟩=some u;rw [(rd HW2.out).1 j,c1_];exact hj)).mono ?_;rintro e w3 ⟨v3,rfl,ho3,hne3,hb3⟩;obtain ⟨wa3,wc3,rfl⟩:=ownsRow_form ho3;have HB3:=h_ ((show Below w2.heap.size w2 w2.drew from Ze ⟨1,rfl⟩).trans hb3);have HO3:=h_ (show w3.ownsRow w2.heap.size 9 1 (.slice wa3 words.length wc3) words.length (Zh words) from ho3);clear ho3 hne3 hb3;refine hK.out _ _ ⟨Za HBX.out HB3.out,HB3.out⟩ (fun hHeld=>?_);clear hK K;refine u_ ?_;refine ZF k_ ?_;clear hHeld;obtain ⟨hset,⟨ox,hox⟩,hfz,-,-,hshape⟩:=Zer (Zo HOW.out HB3.out) (kvs.length*6+5) (by rw [HOW.out.1];omega) (.slice wa3 words.length wc3);obtain ⟨sh,hshape⟩:=hshape;go_wp2_with fail;refine ⟨rfl,_,results_none rfl _ _ _,rfl,⟨sec,name,10,false,kinds,wa3,words.length,wc3⟩,⟨rfl,rfl,rfl,rfl,rfl⟩,⟨rfl,?_⟩,⟨some ⟨g,0,none⟩,gc,?_,?_⟩,?_⟩
 ·have hne:(Value.slice wa3 words.length wc3).ownBlock≠some g:=by
   intro q
   have:=(World.ownsRow.lt HO3.out g q).1
   omega
  have h1:(w3.setCell ⟨g,kvs.length*6+5,none⟩ (.slice wa3 words.length wc3)).ownsRow w2.heap.size 9 1 (.slice wa3 words.length wc3) words.length (Zh words):=by
   refine ⟨HO3.out.1,?_⟩;rcases HO3.out.2 with hn|⟨g2,cp,cur,hv,hg2,hgg,rest⟩
   ·exact .inl hn
   ·refine .inr ⟨g2,cp,cur,hv,hg2,ZC hgg (a:=⟨g,kvs.length*6+5,none⟩) (by show g2≠g;omega) _,rest⟩
  refine ⟨h1.1,?_⟩;rcases h1.2 with hn|⟨g2,cp,cur,hv,hg2,hgg,rest⟩
  ·exact .inl hn
  ·exact .inr ⟨g2,cp,cur,hv,by have:=HF2.out.size;omega,hgg,rest⟩
 ·rw [c5_]
  exact ZC (Za HBX.out HB3.out) (a:=⟨g,kvs.length*6+5,none⟩) (by show P≠g;omega) _
 ·have e1:(Zx Zm (kvs++[name].map (YZ sec kinds 10 false))).set (kvs.length*6+5) (.slice wa3 words.length wc3)=Zx Zm (kvs++[⟨sec,name,10,false,kinds,wa3,words.length,wc3⟩]):=by
   rw [HFL.out,ZT,QJ];have hlk:(Zx Zm kvs).length=kvs.length*6:=XB (enc:=Zm) (k:=6) (fun _=>rfl) kvs;rw [List.set_append_right _ _ o_,hlk,show kvs.length*6+5-kvs.length*6=5 by omega];rfl
  have e2:(kvs++[(⟨sec,name,10,false,kinds,wa3,words.length,wc3⟩:ZQ)]).length=kvs.length+1:=s_;rw [e1] at hset;rw [e2];exact hset
 ·have f3:FrB P B 82 w w3:=HF2.out.trans (show FrB P B 82 w2 w3 from Fr.of_below HB3.out _)
  refine Fr.setCell f3 (p:=⟨g,kvs.length*6+5,none⟩) (fun hgw=>.inr ⟨hBg,?_⟩) _;obtain ⟨cs,fz,hh⟩:=(X7 HOW.out g rfl).2;by_cases hm:g=P\/(B<=g/\Zdw 82 w g)
  ·rcases hm with h|h
   ·omega
   ·exact h.2
  ·exact ⟨cs,fz,by rw [<-HF2.out.block g hgw hm];exact hh⟩
theorem ZeH{P:Program}{w:World}{ops:Array Oper}{rest:List Oper}{o:Oper}{a:Act}{Q:Exit->Act->World->Prop}(hw:Region.wanted o (yielded ops a.tmps)=true)(s x:Operand)(t t2:TypeId)
  (ho:o.op=.call { callee:=.builtin .append,args:=#[s,x],argTypes:=#[t,t2] }) {v xv v':Value} {w':World} (hr:(Builtin.append_ #[t,t2] o.type #[v,xv]).run P w=.ok v' w') (hs:a.eval s=v) (hx:a.eval x=xv)
  (h:wpList P ops Q rest (a.put o.dst v') w'):wpList P ops Q (o::rest) a w:=by
 refine wpList_step fun K hK=>?_
 rw [if_pos hw];unfold Oper.wp execOp;simp only [ho,resolve,invoke,builtin,Sem.run_bind,Sem.run_pure,Result.andThen_ok,List.map_toArray,List.map_cons,List.map_nil,hs,hx,hr];exact hK _ _ h
def Zus(w:World)(l:List ZQ)(e:Ending)(w':World):Prop:=∃v,e=.returned v/\w'.ownsRow w.heap.size 82 6 v l.length (Zx Zm l)/\Below w.heap.size w w'
theorem ZrE(n:Nat)(w:World)(hn:n<1073741824):Calls prog 172 #[.slice none 0 0,.int .i64 n] w fun e w'=>∃v,e=.returned v/\w'.ownsRow w.heap.size 82 6 v 0 []/\Below w.heap.size w w':=by
 obtain ⟨i0,hi0,hz0,hz1,hz2⟩:=info_parts Zfj;by_cases h0:n=0
 ·subst h0
  go_enter func172,ntmps172;go_wp2_with fail;go_ret;exact ⟨_,rfl,World.ownsRow_nil _ _ _ _,Below.refl _ _⟩
 ·have hrun:∀ty,(Builtin.append_ #[79,3] ty #[.slice none 0 0,.int .i64 (n:Int)]).run prog w=.ok (.slice (some ⟨w.heap.size,0,none⟩) (0+n) (grownCap w (0+n) 0 82)) (w.drew.alloc (.cells (#[]++Builtin.zeroCells (Value.agg #[.string ⟨#[]⟩,.string ⟨#[]⟩,.int .i64 0,.bool false,.int .i64 0,.slice none 0 0]).cells n++Builtin.zeroCells (Value.agg #[.string ⟨#[]⟩,.string ⟨#[]⟩,.int .i64 0,.bool false,.int .i64 0,.slice none 0 0]).cells (grownCap w (0+n) 0 82-(0+n))) 82)):=fun ty=>
   Lib.run_append_grow_zeros w 79 3 ty 82 i0 (.agg #[.string ⟨#[]⟩,.string ⟨#[]⟩,.int .i64 0,.bool false,.int .i64 0,.slice none 0 0]) .i64 .i64 underlying79 underlying3 hi0 hz0 none 0 0 [] (run_firstCells_none w.drew i0.size 0 0 0) n o_ o_ o_ o_ (by rw [hz2];omega) (growslice_fits o_ (by rw [hz2];omega))
  have hG:=grownCap_ge w (0+n) 0 82;have hM:=grownCap_le_maxLen w (0+n) 0 82 n23_;generalize grownCap w (0+n) 0 82=G at *;have HR:=h_ hrun;have hown:(w.drew.alloc (.cells (#[]++Builtin.zeroCells (Value.agg #[.string ⟨#[]⟩,.string ⟨#[]⟩,.int .i64 0,.bool false,.int .i64 0,.slice none 0 0]).cells n++Builtin.zeroCells (Value.agg #[.string ⟨#[]⟩,.string ⟨#[]⟩,.int .i64 0,.bool false,.int .i64 0,.slice none 0 0]).cells (G-(0+n))) 82)).ownsRow w.heap.size 82 6 (.slice (some ⟨w.heap.size,0,none⟩) 0 G) 0 []:=by
   refine ⟨rfl,.inr ⟨w.heap.size,G,_,rfl,l_,heap_alloc_new w.drew _,Nat.zero_le _,hM,?_,s_⟩⟩;simp [Builtin.zeroCells,Value.cells];omega
  have HO:=h_ hown;have HB:=h_ ((show Below w.heap.size w w.drew from Ze ⟨1,rfl⟩).alloc l_ (.cells (#[]++Builtin.zeroCells (Value.agg #[.string ⟨#[]⟩,.string ⟨#[]⟩,.int .i64 0,.bool false,.int .i64 0,.slice none 0 0]).cells n++Builtin.zeroCells (Value.agg #[.string ⟨#[]⟩,.string ⟨#[]⟩,.int .i64 0,.bool false,.int .i64 0,.slice none 0 0]).cells (G-(0+n))) 82));clear hrun hown;have h1:¬((n:Int)<0):=o_;have h2:wrap64 ((n:Int)-0)=(n:Int):=by unfold wrap64;omega
  have h2b:wrap64 (n:Int)=(n:Int):=by unfold wrap64;omega
  have h4:(n:Int)>0:=o_;have h5:(0:Int)<n:=h4;have hM2:(G:Int)<=9223372036854775807:=by unfold maxLen at hM;omega
  generalize hw1:w.drew.alloc _=w1 at *;clear hw1;go_enter func172,ntmps172;go_wp2_with (at_builtin;refine ZeH rfl _ _ 79 3 rfl (HR.out _) rfl rfl ?_);go_ret;exact ⟨_,rfl,HO.out,HB.out⟩
structure Znn(w:World)(G:Nat)(ls:List (List ZQ)):Prop where
 lt:G<w.heap.size
 row:∀k (h:k<ls.length),∃oa cap,w.cell? ⟨G,k,none⟩=some (.slice oa ls[k].length cap)/\ZG Zm 6 w oa ls[k]
theorem Znn.below{w w':World}{G:Nat}{ls:List (List ZQ)}(h:Znn w G ls)(hb:Below w.heap.size w w'):Znn w' G ls:=
 ⟨c16_ h.lt hb.size,fun k hk=>by obtain ⟨oa,cap,h1,h2⟩:=h.row k hk;exact ⟨oa,cap,by rw [hb.cell h.lt];exact h1,h2.below hb⟩⟩
theorem Zdd(ls:List (List ZQ))(k:Nat)(h:k<ls.length):(ls.take (k+1)).flatten=(ls.take k).flatten++ls[k]:=by
 rw [c4_ h,List.flatten_append];simp
theorem Ze2(ls:List (List ZQ))(k:Nat):(ls.take k).flatten.length<=ls.flatten.length:=by
 have:ls.flatten=(ls.take k).flatten++(ls.drop k).flatten:=by rw [<-List.flatten_append,List.take_append_drop]
 rw [this,c5_];omega
theorem ZmB(G cap0:Nat)(ls:List (List ZQ))(w:World)(hr:Znn w G ls)(hl:ls.length<1000)(hs:ls.flatten.length<1073741824) :
  Calls prog 90 #[.slice (some ⟨G,0,none⟩) ls.length cap0] w fun e w'=>Zus w ls.flatten e w':=by
 obtain ⟨i0,hi0,hz0,hz1,hz2⟩:=info_parts Zfj;have HR:=h_ hr;clear hr;have HS:=h_ hs;go_enter func90,ntmps90;go_wp2_with fail;go_loopg [3,11] (ls.length+1) (fun f n i wr=>∃k:Nat,k<=ls.length/\i=.int .i64 k/\n=.int .i64 ((ls.take k).flatten.length:Nat)/\ls.length-k<f/\w=wr)
 case atStart=>exact ⟨0,o_,rfl,s_,o_,rfl⟩
 case round=>
  obtain ⟨k,hk,rfl,rfl,hfu,rfl⟩:=hrel;by_cases hlt:k<ls.length
  ·obtain ⟨oa,cap,hc,-⟩:=HR.out.row k hlt
   have hN:=Zdd ls k hlt;have hle:=Ze2 ls (k+1);have hlen:(ls.take (k+1)).flatten.length=(ls.take k).flatten.length+ls[k].length:=by rw [hN,c5_]
   rw [hlen] at hle;have HL:=h_ hlen;clear hN hlen;generalize (ls.take k).flatten.length=a at *;generalize ls[k].length=b at *;have i5:(k:Int)<(ls.length:Int):=o_;have h2:wrap64 ((a:Int)+(b:Int))=(a:Int)+(b:Int):=by unfold wrap64;omega
   have h3:¬((a:Int)+(b:Int)<0):=o_;go_wp2_with fail;go_roundg (gk-1)
   case measure=>omega
   case rel=>exact ⟨k+1,o_,n9_,by rw [HL.out];go_num,o_,rfl⟩
  ·have hke:k=ls.length:=o_
   subst hke;rw [List.take_length];have hge:¬((ls.length:Int)<(ls.length:Int)):=o_;have HG:=h_ (ZrE ls.flatten.length w hs);generalize hFN:ls.flatten.length=N at HG⊢;have HFN:=h_ hFN;clear hFN;go_wp2_with fail;refine HG.out.mono ?_;rintro e w1 ⟨v0,rfl,ho,hb⟩;obtain ⟨ao,cap1,rfl⟩:=ownsRow_form ho;have HO:=h_ ho;have HB:=h_ hb;clear ho hb HG hfu hk hlt;go_wp2_with fail;go_loopg [6,27] (ls.length+1) (fun f v i w2=>∃k:Nat,k<=ls.length/\i=.int .i64 k/\ls.length-k<f/\Hid (w2.ownsRow w.heap.size 82 6 v (ls.take k).flatten.length (Zx Zm (ls.take k).flatten))/\Hid (Below w.heap.size w w2))
   case atStart=>exact ⟨0,o_,rfl,o_,HO,HB⟩
   case round=>
    obtain ⟨k,hk,rfl,hfu,Hown,Hb⟩:=hrel;clear HO HB;obtain ⟨oa',cap',rfl⟩:=ownsRow_form Hown.out;by_cases hlt:k<ls.length
    ·obtain ⟨oa,cap,hc,hrow⟩:=(HR.out.below Hb.out).row k hlt
     have hN:=Zdd ls k hlt;have hle:=Nat.lt_of_le_of_lt (Ze2 ls (k+1)) HS.out;rw [hN,c5_] at hle;have HN:=h_ hN;have i5:(k:Int)<(ls.length:Int):=o_;obtain ⟨v',w3,hrun,hown,hgrow⟩:=Xh w.heap.size 79 79 82 i0 (.agg #[.string ⟨#[]⟩,.string ⟨#[]⟩,.int .i64 0,.bool false,.int .i64 0,.slice none 0 0]) 6 80 underlying79 hi0 hz0 hz1 hz2 rfl d_ _ _ _ Hown.out oa ls[k].length cap (Zx Zm ls[k]) (by rw [XB (enc:=Zm) (k:=6) (fun _=>rfl)]) (ZG.flat (enc:=Zm) (k:=6) (fun _=>rfl) o_ hrow) (Y1 ZeO _) n23_ o_ Hb.out.size;have HRUN:=h_ hrun;have HB3:=h_ (Hb.out.grown hgrow Hb.out.size (fun g hg=>(Hown.out.lt g hg).1));have HO3:=h_ (show w3.ownsRow w.heap.size 82 6 v' (ls.take (k+1)).flatten.length (Zx Zm (ls.take (k+1)).flatten) by rw [hN,c5_,ZT];exact hown);clear hrun hown hgrow hN hrow;go_wp2_with (at_builtin;refine wpList_append_run rfl _ _ 79 rfl HRUN.out rfl rfl ?_);obtain ⟨ao,cap2,rfl⟩:=ownsRow_form HO3.out;go_roundg (gk-1)
     case measure=>omega
     case rel=>exact ⟨k+1,o_,n9_,o_,HO3,HB3⟩
    ·have hke:k=ls.length:=o_
     subst hke;have hge:¬((ls.length:Int)<(ls.length:Int)):=o_;have HO3:=h_ (by have:=Hown.out;rw [List.take_length] at this;exact this);clear Hown;rw [List.take_length];generalize hFL:ls.flatten=FL at HO3⊢;have HFL:=h_ hFL;clear hFL;go_wp2_with fail;go_ret;exact ⟨_,rfl,by rw [HFL.out];exact HO3.out,Hb.out⟩
theorem infoByte:(prog.info? 5).map (fun i=>(i.zero,i.size,i.bytes))=some (some (.int .u8 0),1,1):=k_
theorem ZoG:prog.cellsOf 5=1:=k_
theorem sizeBuilder:(prog.info? 127).map (fun i=>i.size)=some 2:=k_
theorem JD{P:Program}{f:FuncId}{args:Array Value}{w:World}{n:Nat}{v:Value}
  (h:Calls P f args (w.drewN n) fun e w'=>e=.returned v/\w.drewN n=w'):Calls P f args (w.drewN n) fun e w''=>e=.returned v/\∃k,w''=w.drewN k:=
 h.mono fun _ _ ⟨he,hw⟩=>⟨he,n,hw.symm⟩
def ZqT(T n o:Nat):Prop:=liesAt prog prog.depth T (n / prog.cellsOf T) o 127 1=true/\o+1<n
theorem Zhv(R o:Nat)(w:World)(h0:w.cell? ⟨R,o,none⟩=some (.pointer (some ⟨R,o,none⟩))) :
  Calls prog 185 #[.pointer (some ⟨R,o,none⟩)] w fun e w'=>e=.returned (.tuple #[])/\w=w':=by
 obtain ⟨j,hj,_⟩:=Option.map_eq_some_iff.1 sizeBuilder;go_enter func185,ntmps185;go_wp2;rw [Lib.run_neq_ptr_same w _ underlying124 hj];go_wp2;go_end0;exact ⟨rfl,rfl⟩
theorem ZgH(R o:Nat)(T n:Nat)(w:World)(h0:w.cell? ⟨R,o,none⟩=some (.pointer none))(hsh:w.shape? R=some (T,n))(hT:ZqT T n o)(hfz:w.frozen? ⟨R,o,none⟩=false) :
  Calls prog 185 #[.pointer (some ⟨R,o,none⟩)] w fun e w'=>e=.returned (.tuple #[])/\w'=w.setCell ⟨R,o,none⟩ (.pointer (some ⟨R,o,none⟩)):=by
 obtain ⟨j,hj,hjs⟩:=Option.map_eq_some_iff.1 sizeBuilder;obtain ⟨hl,ho⟩:=hT;go_enter func185,ntmps185;go_wp2;rw [Lib.run_to_unsafe w ⟨R,o,none⟩ underlying124 underlying227 hj (by rw [hjs];decide) hsh (by show o<n;omega)];simp only [Result.andThen];rw [Oper.upon_value];go_wp2;rw [run_callFunc_extern func242 k_ k_ k_ (e:=Extern.AbiNoEscape.same) k_];rw [Lib.run_noEscape];simp only [Result.andThen];rw [Oper.upon_value];go_wp2;rw [Lib.run_from_unsafe w ⟨R,o,none⟩ underlying227 underlying124 hj hsh hl];simp only [Result.andThen];rw [Oper.upon_value];go_wp2;go_end0;exact ⟨rfl,rfl⟩
def ZbP(R o:Nat):Value:=.pointer (some ⟨R,o,none⟩)
theorem Zed(R o:Nat)(cs:Array Value)(T:Nat)(w:World)(hR:w.heap[R]?=some (.cells cs T (0,0)))(hT:ZqT T cs.size o)
  (p:Value) (hp:cs[o]?=some p) (hp':p=.pointer none\/p=ZbP R o) :
  Calls prog 185 #[.pointer (some ⟨R,o,none⟩)] w fun e w'=>e=.returned (.tuple #[])/\
   w'.heap[R]?=some (.cells (cs.setIfInBounds o (ZbP R o)) T (0,0))/\Fr (·=R) w w':=by
 obtain ⟨hc,hf,hs,hlt⟩:=rd hR;rcases hp' with rfl|rfl
 ·refine (ZgH R o T cs.size w (by rw [hc];exact hp) hs hT (hf o)).mono ?_
  rintro e w' ⟨rfl,rfl⟩;exact ⟨rfl,heap_setCell hR _ _,Fr.setCell (M:=(·=R)) (Fr.refl _ _) (p:=⟨R,o,none⟩) (fun _=>rfl) _⟩
 ·refine (Zhv R o w (by rw [hc];exact hp)).mono ?_
  rintro e w' ⟨rfl,rfl⟩;refine ⟨rfl,?_,Fr.refl _ _⟩;rw [hR];congr 2;obtain ⟨h1,h2⟩:=c6_.1 hp;apply Array.ext_getElem?;intro i;rw [Array.getElem?_setIfInBounds];split
  ·subst_vars;simp [h1,h2]
  ·rfl
def Wrote(R o B:Nat)(T:Nat)(cs:Array Value)(l:List UInt8)(w w':World):Prop:=
 ∃v',w'.heap[R]?=some (.cells ((cs.setIfInBounds o (ZbP R o)).setIfInBounds (o+1) v') T (0,0))/\Buf B 5 l v' w'/\FrB R B 5 w w'
theorem Zgv{R o B T:Nat}{cs:Array Value}{v v':Value}{l m:List UInt8}{w w1 w1' w2:World}(hTe:T≠5)(hf1:Fr (·=R) w w1)(hl1:Buf B 5 l v w1)
  (hal:FrB R B 5 w1 w1') (hrow:∀g,v.ownBlock=some g->B<=g/\Zdw 5 w1' g) (hg:w1'.grownBy w2 v.ownBlock) (hR2:w2.heap[R]?=some (.cells (cs.setIfInBounds o (ZbP R o)) T (0,0)))
  (hb:Buf B 5 m v' w2):Wrote R o B T cs m w (w2.setCell ⟨R,o+1,none⟩ v'):=by
 refine ⟨v',heap_setCell hR2 _ _,hb.setCell (hb.ne hR2 hTe) _,?_⟩;have h1:FrB R B 5 w w1:=hf1.mono (fun i _ h=>.inl h);exact ((h1.trans hal).grown hg hrow).setCell _ _
theorem Zic(R o B:Nat)(cs:Array Value)(T:Nat)(w:World)(hR:w.heap[R]?=some (.cells cs T (0,0)))
  (v:Value) (hv:cs[o+1]?=some v) (l:List UInt8) (hl:Buf B 5 l v w) (hTe:T≠5) :
  Calls prog 100 #[.pointer (some ⟨R,o,none⟩)] w fun e w'=>e=.returned (.string ⟨l.toArray⟩)/\w'.heap[R]?=some (.cells cs T (0,0))/\Buf B 5 l v w'/\FrB R B 5 w w':=by
 have c1:w.cell? ⟨R,o+1,none⟩=some v:=by rw [(rd hR).1];exact hv
 rcases hl with ⟨rfl,rfl⟩|⟨h0,hown⟩
 ·have hUS:=fun w=>Lib.run_unsafeString_none (P:=prog) w 196 3 9 none
  have c2:w.drew.cell? ⟨R,o+1,none⟩=some (.slice none 0 0):=c1;have hSD:(Builtin.unsafeSliceData_ #[125] 196 #[.slice none 0 0]).run prog w.drew=.ok (.pointer none) w.drew:=rfl;have HR:=h_ hR;clear hR;go_enter func100,ntmps100;go_wp2;go_region;all_goals (go_wp2;go_ret;exact ⟨rfl,HR.out,.inl ⟨rfl,rfl⟩,(FrB.refl _ _ _ _).drew⟩)
 ·have hl0:l.length≠0:=by simpa using h0
  obtain ⟨g,cap,cur,fz,rfl,hbg,hg,hfz,hnc,hcm,hcs,htake⟩:∃g cap cur fz,v=.slice (some ⟨g,0,none⟩) l.length cap/\B<=g/\w.heap[g]?=some (.cells cur 5 fz)/\fz.2<=l.length*1/\l.length<=cap/\cap<=maxLen/\cur.size=cap*1/\cur.toList.take (l.length*1)=Lib.byteCells l:=by
   rcases hown.2 with ⟨_,hz⟩|⟨g,cap,cur,fz,hv,r⟩
   ·exact absurd hz hl0
   ·exact ⟨g,cap,cur,fz,hv,r⟩
  have hgR:g≠R:=fun e=>by subst e;rw [hR] at hg;simp at hg;exact hTe hg.2.1
  have hSD:(Builtin.unsafeSliceData_ #[125] 196 #[.slice (some ⟨g,0,none⟩) l.length cap]).run prog w.drew=.ok (.pointer (some ⟨g,0,none⟩)) w.drew:=
   Lib.run_unsafeSliceData_row _ _ _ _ _ _ o_
  have hUS:(Builtin.unsafeString_ #[196,3] 9 #[.pointer (some ⟨g,0,none⟩),.int .i64 l.length]).run prog w.drew=.ok (.string ⟨l.toArray⟩) (w.drew.freeze ⟨g,0,none⟩ l.length):=by
   refine Lib.run_unsafeString_row w.drew 196 3 9 5 underlying196 ZoG g cur.size (by have hg':w.drew.heap[g]?=some (.cells cur 5 fz):=hg;simp [World.shape?,hg']) l h0 o_ (by unfold maxLen at hcm;omega) ?_;intro j x hx;exact hown.cells (g:=g) rfl j (.int .u8 x.toNat) (by simp [Lib.byteCells,hx])
  have c2:w.drew.cell? ⟨R,o+1,none⟩=some (.slice (some ⟨g,0,none⟩) l.length cap):=c1;have hkeep:Buf B 5 l (.slice (some ⟨g,0,none⟩) l.length cap) (w.drew.freeze ⟨g,0,none⟩ l.length):=by
   refine .inr ⟨h0,hown.1,.inr ⟨g,cap,cur,?_⟩⟩;have hn0:l.length≠0:=hl0;obtain ⟨lo,hi⟩:=fz;refine ⟨if lo==hi then (0,l.length) else (min lo 0,max hi l.length),rfl,hbg,?_,?_,hnc,hcm,hcs,htake⟩
   ·unfold World.freeze
    rw [if_neg hn0]
    have:w.drew.heap[g]?=some (.cells cur 5 (lo,hi)):=hg
    simp [Array.getElem?_modify,this]
   ·simp only at hfz
    split<;>simp<;>omega
  have hfr:FrB R B 5 w (w.drew.freeze ⟨g,0,none⟩ l.length):=Fr.freeze (Fr.drew (Fr.refl _ _)) (fun _=>.inr ⟨hbg,cur,fz,hg⟩) _;have hR2:(w.drew.freeze ⟨g,0,none⟩ l.length).heap[R]?=some (.cells cs T (0,0)):=by
   unfold World.freeze;split
   ·exact hR
   ·have:w.drew.heap[R]?=some (.cells cs T (0,0)):=hR
    simp only [Array.getElem?_modify];rw [if_neg hgR];exact this
  have HH:=h_ (And.intro hR2 (And.intro hkeep hfr));clear hR2 hkeep hfr hg hR hown htake hcs hbg hfz;go_enter func100,ntmps100;go_wp2;go_region;all_goals (go_wp2;go_ret;exact ⟨rfl,HH.out⟩)
def Bld(R B:Nat)(l:List UInt8)(w:World):Prop:=
 ∃p v,w.heap[R]?=some (.cells #[p,v] 127 (0,0))/\(p=.pointer none\/p=ZbP R 0)/\Buf B 5 l v w/\R<B/\B<=w.heap.size
theorem Zfl:ZqT 127 2 0:=⟨k_,d_⟩
theorem Bld.lt{R B:Nat}{l:List UInt8}{w:World}(h:Bld R B l w):R<w.heap.size:=by obtain ⟨_,_,h,_⟩:=h;exact Zd h
theorem Bld.new(w:World):Bld w.heap.size (w.heap.size+1) [] (w.alloc (.cells #[.pointer none,.slice none 0 0] 127)):=
 ⟨.pointer none,.slice none 0 0,heap_alloc_new w _,.inl rfl,.inl ⟨rfl,rfl⟩,o_,s_⟩
theorem Bld.drewN{R B:Nat}{l:List UInt8}{w:World}(h:Bld R B l w)(n:Nat):Bld R B l (w.drewN n):=h
theorem Bld.drew{R B:Nat}{l:List UInt8}{w:World}(h:Bld R B l w):Bld R B l w.drew:=h
theorem Bld.frame{R B:Nat}{l:List UInt8}{w w':World}{M:Nat->Prop}(h:Bld R B l w)(hf:Fr M w w')(hR:¬M R)(hB:∀i,B<=i->Zdw 5 w i->¬M i):Bld R B l w':=by
 obtain ⟨p,v,h1,h2,h3,h4,h5⟩:=h;exact ⟨p,v,hf.heap h1 hR,h2,h3.kept hf (fun i hi=>hB i (h3.row i hi).1 (h3.row i hi).2),h4,by have:=hf.size;omega⟩
theorem Bld.below{R B:Nat}{l:List UInt8}{w w':World}(h:Bld R B l w)(hf:Below w.heap.size w w'):Bld R B l w' :=
 h.frame (M:=fun _=>False) (Fr.of_below hf _) (fun e=>e) (fun _ _ _ e=>e)
theorem Bld.string{R B:Nat}{l:List UInt8}{w:World}(h:Bld R B l w) :
  Calls prog 100 #[.pointer (some ⟨R,0,none⟩)] w fun e w'=>e=.returned (.string ⟨l.toArray⟩)/\Bld R B l w'/\FrB R B 5 w w':=by
 obtain ⟨p,v,h1,h2,h3,h4,h5⟩:=h;refine (Zic R 0 B _ _ w h1 v rfl l h3 d_).mono ?_;rintro e w1 ⟨rfl,hR1,hb1,hf1⟩;exact ⟨rfl,⟨p,v,hR1,h2,hb1,h4,n79_⟩,hf1⟩
theorem Zg2:(prog.info? 9).map (fun i=>(i.zero,i.size,i.bytes))=some (some (.string ⟨#[]⟩),1,16):=k_
theorem Zqg(R o:Nat)(cs:Array Value)(T:Nat)(w:World)(hR:w.heap[R]?=some (.cells cs T (0,0)))(ho:o+1<cs.size)
  (p v:Value) (hp:cs[o]?=some p) (hv:cs[o+1]?=some v) :
  Calls prog 307 #[.pointer (some ⟨R,o,none⟩)] w fun e w'=>e=.returned (.tuple #[])/\
   w'.heap[R]?=some (.cells ((cs.setIfInBounds o (.pointer none)).setIfInBounds (o+1) (.slice none 0 0)) T (0,0))/\Fr (·=R) w w':=by
 have c0:w.cell? ⟨R,o,none⟩=some p:=by rw [(rd hR).1];exact hp
 have c1:w.cell? ⟨R,o+1,none⟩=some v:=by rw [(rd hR).1];exact hv
 have f0:=(rd hR).2.1 o;have f1:=(rd hR).2.1 (o+1);have HR:=h_ hR;clear hR;go_enter func307,ntmps307;go_wp2;go_end0;refine ⟨rfl,heap_setCell (heap_setCell HR.out _ _) _ _,Fr.setCell (M:=(·=R)) (p:=⟨R,o+1,none⟩) (Fr.setCell (M:=(·=R)) (p:=⟨R,o,none⟩) (Fr.refl _ _) (fun _=>rfl) _) (fun _=>rfl) _⟩
theorem ZdX(R o B:Nat)(cs:Array Value)(T:Nat)(w:World)(hR:w.heap[R]?=some (.cells cs T (0,0)))(hT:ZqT T cs.size o)
  (p v:Value) (hp:cs[o]?=some p) (hp':p=.pointer none\/p=ZbP R o) (hv:cs[o+1]?=some v)
  (l:List UInt8) (hl:Buf B 5 l v w) (hTe:T≠5) (hlen:l.length<1099511627776) (hB:B<=w.heap.size) (c:UInt8) :
  Calls prog 127 #[.pointer (some ⟨R,o,none⟩),.int .u8 c.toNat] w fun e w'=>e=.returned .nilIface/\Wrote R o B T cs (l++[c]) w w':=by
 obtain ⟨i0,hi,hz0,hz1,hz2⟩:=info_parts infoByte;have hne:=hl.ne hR hTe;go_enter func127,ntmps127;go_wp2_with (go_at_call 185;refine (Zed R o cs T _ hR hT p hp hp').mono ?_);rintro e w1 ⟨rfl,hR1,hf1⟩;have HR:=h_ hR;clear hR;have HR1:=h_ hR1;clear hR1;have hl1:=hl.kept hf1 (fun k hk e=>hne (e ▸ hk));have c1:w1.cell? ⟨R,o+1,none⟩=some v:=by
  rw [(rd HR1.out).1,c13_ o_];exact hv
 go_wp2_with (at_builtin;refine wpList_append_ownF _ rfl _ _ 125 rfl B 5 i0 (.int .u8 0) 1 1 underlying125 hi hz0 hz1 hz2 rfl d_ _ _ _ rfl (hl1.own.alloc _) ⟨w1.heap.size,0,none⟩ 1 1 [.int .u8 c.toNat] rfl rfl ?c1 ?c2 ?c3 ?c4 ?c5 ?_)
 case c1=>exact cell_one_new _ _ _
 case c2=>simp [Value.oneCell']
 case c3=>unfold maxLen;omega
 case c4=>omega
 case c5=>have:=hf1.size;simp;omega
 intro v' w2 hown' hgrow hnil;have hR2:w2.heap[R]?=some (.cells (cs.setIfInBounds o (ZbP R o)) T (0,0)):=by
  rw [hgrow.block R (by have:=Zd HR1.out;simp;omega) (fun e=>hne e.symm)];exact heap_alloc HR1.out _
 have HR2:=h_ hR2;clear hR2;have d1:w2.cell? ⟨R,o+1,none⟩=some v:=by
  rw [(rd HR2.out).1,c13_ o_];exact hv
 have d2:=(rd HR2.out).2.1 (o+1);obtain ⟨ao,n',cap,rfl⟩:∃ao n' cap,v'=.slice ao n' cap:=by
  rcases hown'.2 with ⟨hv,_⟩|⟨g,cap,cur,fz,hv,_⟩
  ·exact ⟨_,_,_,hv⟩
  ·exact ⟨_,_,_,hv⟩
 have HG:=h_ (And.intro hgrow (And.intro hnil hown'));clear hgrow hnil hown';go_wp2;go_ret;obtain ⟨hgrow,hnil,hown'⟩:=HG.out;refine ⟨rfl,Zgv hTe hf1 hl1 (FrB.alloc (FrB.refl _ _ _ _) _) (hl1.alloc _).row hgrow HR2.out (.inr ⟨s_,?_⟩)⟩;simpa [Lib.byteCells_append,ZiN] using hown'
theorem Bld.writeByte{R B:Nat}{l:List UInt8}{w:World}(h:Bld R B l w)(c:UInt8)(hlen:l.length<1099511627776) :
  Calls prog 127 #[.pointer (some ⟨R,0,none⟩),.int .u8 c.toNat] w fun e w'=>e=.returned .nilIface/\Bld R B (l++[c]) w'/\FrB R B 5 w w':=by
 obtain ⟨p,v,h1,h2,h3,h4,h5⟩:=h;refine (ZdX R 0 B #[p,v] 127 _ h1 Zfl p v rfl h2 rfl l h3 d_ hlen h5 c).mono ?_;rintro e w1 ⟨rfl,v',hR1,hb1,hf1⟩;exact ⟨rfl,⟨ZbP R 0,v',hR1,.inr rfl,hb1,h4,n79_⟩,hf1⟩
theorem m15_{p:Prop}(h:p:=by go_enter func252,ntmps252;go_wp2_with fail;go_quiet ((go_at_call 175;exact Calls.quiet_of_same (Tryz.strings_IndexByte _ _ _)));go_wp2;go_ret2;exact ⟨rfl,_,rfl⟩):p:=h
theorem Zwe(a b c:UInt8):(0<=Lib.indexByte [a,b] c)↔(c=a\/c=b):=by
 simp only [Lib.indexByte];by_cases h1:a=c
 ·simp [h1]
 ·by_cases h2:b=c
  ·subst h2;simp [h1]
  ·simp [h1,h2]
   exact ⟨fun e=>h1 e.symm,fun e=>h2 e.symm⟩
theorem ZaD(c:UInt8)(w:World) :
  Calls prog 305 #[.int .u8 c.toNat] w fun e w'=>e=.returned (.bool (Zj c))/\w=w':=by
 go_enter func305,ntmps305;go_wp2_with (go_at_call 175;refine (Tryz.strings_IndexByte _ _ _).mono ?_;rintro e w' ⟨rfl,rfl⟩);go_ret;refine ⟨ZB ?_,rfl⟩;rw [Zf6,decide_eq_decide,Zwe,<-UInt8.toNat_inj,<-UInt8.toNat_inj];simp;omega
abbrev Zd8:List UInt8:=[48,49,50,51,52,53,54,55,56,57,97,98,99,100,101,102]
theorem ZtG(c:UInt8):Lib.indexByte Zd8 c=match hexOf c with|some n=>(n:Int)|none=>-1:=by
 have:=JR (p:=fun c=>decide (Lib.indexByte Zd8 c=match hexOf c with|some n=>(n:Int)|none=>-1)) n1_ c
 exact of_decide_eq_true this
theorem Zly{c:UInt8}{n:Nat}(h:hexOf c=some n):n<16:=by
 have:=JR (p:=fun c=>match hexOf c with|some n=>decide (n<16)|none=>true) n1_ c
 rw [h] at this;exact of_decide_eq_true this
theorem Zwd(x y:Nat)(hx:x<16)(hy:y<16):bits BinOp.or IntKind.i64 ((x:Int)*16) y % 256=((UInt8.ofNat (16*x+y)).toNat:Int):=by
 have h:(List.range 16).all (fun x=>(List.range 16).all fun y=>decide (bits BinOp.or IntKind.i64 ((x:Int)*16) y % 256=((UInt8.ofNat (16*x+y)).toNat:Int)))=true:=n1_;have h1:=c7_.1 h x (List.mem_range.2 hx);have h2:=c7_.1 h1 y (List.mem_range.2 hy);exact of_decide_eq_true h2
def ZtZ(l:List UInt8):Value:=match Jh l with
 |some d=>.tuple #[.int .u8 d.toNat,.bool true]
 |none=>.tuple #[.int .u8 0,.bool false]
theorem ZqQ(s:ByteArray)(w:World)(h:s.size<2) :
  Calls prog 252 #[.string s] w fun e w'=>e=.returned (.tuple #[.int .u8 0,.bool false])/\w=w':=by
 go_enter func252,ntmps252;go_wp2;go_ret2;exact ⟨rfl,rfl⟩
theorem ZsG(s:ByteArray)(w:World)(h:2<=s.size)(h63:s.size<=9223372036854775807) :
  Calls prog 252 #[.string s] w fun e w'=>e=.returned (ZtZ [s[0],s[1]])/\∃n,w'=w.drewN n:=by
 have h0:0<s.size:=o_;have h1:(1:Int)<(s.size:Int):=o_;have e0:=ZtG s[0];have e1:=ZtG s[1];have l0:=@Zly s[0];have l1:=@Zly s[1];unfold ZtZ;simp only [Jh];cases hx:hexOf s[0] with
 |none=>
  rw [hx] at e0;simp only at e0;clear l0 l1 e1 hx;exact m15_
 |some x=>
  rw [hx] at e0;simp only at e0;have hx16:=l0 hx;cases hy:hexOf s[1] with
  |none=>
   rw [hy] at e1;simp only at e1;clear l0 l1 hx hy;exact m15_
  |some y=>
   rw [hy] at e1;simp only at e1;have hy16:=l1 hy;clear l0 l1 hx hy;go_enter func252,ntmps252;go_wp2_with fail;go_quiet ((go_at_call 175;exact Calls.quiet_of_same (Tryz.strings_IndexByte _ _ _)));go_wp2;go_ret2;refine ⟨Zbg (by rw [<-Zwd x y hx16 hy16];rfl),_,rfl⟩
theorem ZtW(s:ByteArray)(w:World)(h63:s.size<=9223372036854775807) :
  Calls prog 252 #[.string s] w fun e w'=>e=.returned (ZtZ s.data.toList)/\∃n,w'=w.drewN n:=by
 by_cases h:s.size<2
 ·refine (ZqQ s w h).mono ?_
  rintro e w' ⟨rfl,rfl⟩;refine ⟨?_,0,rfl⟩;obtain ⟨⟨d⟩⟩:=s;match d,h with
  |[],_=>rfl
  |[a],_=>rfl
 ·refine (ZsG s w o_ h63).mono ?_
  rintro e w' ⟨rfl,hw⟩;refine ⟨?_,hw⟩;obtain ⟨⟨d⟩⟩:=s;match d,h with
  |a::b::r,_=>rfl
  |[],h=>exact absurd (show 0<2 by decide) h
  |[a],h=>exact absurd (show 1<2 by decide) h
theorem ZrO(s:ByteArray)(w:World)(h63:s.size<=9223372036854775807)(l:List UInt8)(hl:s.data.toList=l) :
  Calls prog 252 #[.string s] w fun e w'=>e=.returned (.tuple #[.int .u8 ((Jh l).getD 0).toNat,.bool (Jh l).isSome])/\∃n,w'=w.drewN n:=by
 refine (ZtW s w h63).mono ?_;rintro e w' ⟨rfl,hw⟩;refine ⟨?_,hw⟩;rw [hl];unfold ZtZ;cases Jh l<;>rfl
end Go.Proofs.YtmgmbeipbeknaaaGreatDoor

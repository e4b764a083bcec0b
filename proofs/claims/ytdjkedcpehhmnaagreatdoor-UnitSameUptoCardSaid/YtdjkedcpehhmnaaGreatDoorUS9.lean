import Derived.Shelf.Strings.Builder1
import Derived.Shelf.Small.Strs
import Derived.Shelf.Small.Wraps
import Derived.Shelf.Strconv.Atoi
import Derived.Shelf.Strconv.Itoa0
import Derived.Shelf.Strconv.AtoiErrFast
import Derived.Shelf.Strconv.ParseIntEmpty
import Derived.Shelf.Strconv.AtoiFail
import Derived.Shelf.LaysM
import Derived.Shelf.Strconv.Clone
import Derived.Shelf.Strconv.SyntaxError
import Derived.Shelf.LaysC
import Derived.Shelf.Strconv.ToError
import Derived.Shelf.Strconv.Lower
import Derived.Shelf.Strconv.ParseUint10
import Derived.Shelf.Strconv.ParseUint10Empty
import Derived.Shelf.Strconv.ParseUint10Any
import Derived.Shelf.Strconv.ParseInt10
import Derived.Shelf.Strconv.AtoiLong
import Derived.Shelf.Strconv.AtoiInnerAll
import Derived.Shelf.Strconv.RangeError
import Derived.Shelf.Strconv.ToErrorRange
import Derived.Shelf.Strconv.AtoiAll
import Derived.Shelf.Strconv.ErrVarAll
import Derived.Shelf.Strconv.ParseUintEmpty
import Derived.Shelf.Strconv.ParseUint10b64
import Derived.Shelf.Strconv.ParseUint10b32
import Derived.Shelf.Strconv.ParseUint10b16
import Derived.Shelf.Strconv.ParseUint10b8
import Derived.Shelf.Strconv.ParseUint10At
import Derived.Shelf.Strconv.ParseInt10At64
import Derived.Shelf.Strconv.ParseInt10At32
import Derived.Shelf.Strconv.ParseInt10At16
import Derived.Shelf.Strconv.ParseInt10At8
import Derived.Shelf.Strconv.ParseInt10All
import Derived.Shelf.Strings.Search1
import Derived.Shelf.Strings.Search2
import Derived.Shelf.Strings.Search3
import Derived.Shelf.Strings.Cut
import Derived.Shelf.Strings.Count
import Derived.Shelf.Strings.Shaped
import Derived.Shelf.Strings.LastIndex
import Derived.Shelf.Strings.LastIndexAll
import Derived.Shelf.Strings.Prefix
import Derived.Shelf.Strings.Split
import Derived.Shelf.Strings.SplitShaped
import Derived.Shelf.Unicode.DecodeSlow
import Derived.Shelf.Unicode.DecodeAny
import Derived.Shelf.Strings.FieldsFuncAny
import Derived.Shelf.Strings.FieldsFuncGrows
import Derived.Shelf.Slices.Turned
import Derived.Ground.SlgnProg
import Derived.Shelf.SlicesE.Equal
import Derived.Shelf.SlicesE.Clone
import Derived.Ground.PaProg
import Derived.Shelf.Path.Small
import Derived.Test.YtdjkedcpehhmnaaGreatDoorProg
import Derived.Shelf.SlGeneric
import Derived.Shelf.SlicesQ.IndexFunc
import Derived.Shelf.SlicesQ.Equal
import Derived.Ground.SlgfProg
import Derived.Ground.SlgqProg
import Derived.Test.YtdjkedcpehhmnaaGreatDoorUS1
import Derived.Test.YtdjkedcpehhmnaaGreatDoorUS6
import Derived.Test.YtdjkedcpehhmnaaGreatDoorUS8
namespace Go.Proofs
open Go.Shelf
def Tryz.findKey_ren : Go.Shelf.Ren := ⟨fun | 6 => 83 | n => n, fun | 22 => 38 | 23 => 41 | 25 => 116 | 3 => 3 | 0 => 0 | 4 => 4 | n => n, fun | n => n⟩
theorem Tryz.findKey : Go.Proofs.SlLaysH0.n6 Tryz.prog Tryz.findKey_ren := {
 mixed := by kernel_rfl
 f6 := ⟨Tryz.f83.name, by decide, Tryz.func83.trans (congrArg some (by kernel_rfl))⟩
 t0 := Tryz.underlying0
 a0 := Tryz.isAgg0
 z0 := Tryz.sizeOf0
 v0 := Tryz.zeroValue0
 t3 := Tryz.underlying3
 a3 := Tryz.isAgg3
 z3 := Tryz.sizeOf3
 v3 := Tryz.zeroValue3
 t4 := Tryz.underlying4
 a4 := Tryz.isAgg4
 z4 := Tryz.sizeOf4
 v4 := Tryz.zeroValue4
 t22 := Tryz.underlying38
 a22 := Tryz.isAgg38
 z22 := Tryz.sizeOf38
 v22 := Tryz.zeroValue38
 t25 := Tryz.underlying116
 a25 := Tryz.isAgg116
 z25 := Tryz.sizeOf116
 v25 := Tryz.zeroValue116 }
def Tryz.hasKey_ren : Go.Shelf.Ren := ⟨fun | 8 => 78 | 6 => 83 | n => n, fun | 22 => 38 | 23 => 41 | 25 => 116 | 4 => 4 | 3 => 3 | 0 => 0 | n => n, fun | n => n⟩
theorem Tryz.hasKey : Go.Proofs.SlLaysH0.n8 Tryz.prog Tryz.hasKey_ren := {
 mixed := by kernel_rfl
 f6 := ⟨Tryz.f83.name, by decide, Tryz.func83.trans (congrArg some (by kernel_rfl))⟩
 f8 := ⟨Tryz.f78.name, by decide, Tryz.func78.trans (congrArg some (by kernel_rfl))⟩
 t0 := Tryz.underlying0
 a0 := Tryz.isAgg0
 z0 := Tryz.sizeOf0
 v0 := Tryz.zeroValue0
 t3 := Tryz.underlying3
 a3 := Tryz.isAgg3
 z3 := Tryz.sizeOf3
 v3 := Tryz.zeroValue3
 t4 := Tryz.underlying4
 a4 := Tryz.isAgg4
 z4 := Tryz.sizeOf4
 v4 := Tryz.zeroValue4
 t22 := Tryz.underlying38
 a22 := Tryz.isAgg38
 z22 := Tryz.sizeOf38
 v22 := Tryz.zeroValue38
 t25 := Tryz.underlying116
 a25 := Tryz.isAgg116
 z25 := Tryz.sizeOf116
 v25 := Tryz.zeroValue116 }
def Tryz.findPair_ren : Go.Shelf.Ren := ⟨fun | 6 => 177 | n => n, fun | 22 => 27 | 23 => 58 | 25 => 168 | 3 => 3 | 0 => 0 | 4 => 4 | n => n, fun | n => n⟩
theorem Tryz.findPair : Go.Proofs.SlLaysH0.n6 Tryz.prog Tryz.findPair_ren := {
 mixed := by kernel_rfl
 f6 := ⟨Tryz.f177.name, by decide, Tryz.func177.trans (congrArg some (by kernel_rfl))⟩
 t0 := Tryz.underlying0
 a0 := Tryz.isAgg0
 z0 := Tryz.sizeOf0
 v0 := Tryz.zeroValue0
 t3 := Tryz.underlying3
 a3 := Tryz.isAgg3
 z3 := Tryz.sizeOf3
 v3 := Tryz.zeroValue3
 t4 := Tryz.underlying4
 a4 := Tryz.isAgg4
 z4 := Tryz.sizeOf4
 v4 := Tryz.zeroValue4
 t22 := Tryz.underlying27
 a22 := Tryz.isAgg27
 z22 := Tryz.sizeOf27
 v22 := Tryz.zeroValue27
 t25 := Tryz.underlying168
 a25 := Tryz.isAgg168
 z25 := Tryz.sizeOf168
 v25 := Tryz.zeroValue168 }
def Tryz.findRel_ren : Go.Shelf.Ren := ⟨fun | 6 => 182 | n => n, fun | 22 => 24 | 23 => 54 | 25 => 175 | 3 => 3 | 0 => 0 | 4 => 4 | n => n, fun | n => n⟩
theorem Tryz.findRel : Go.Proofs.SlLaysH0.n6 Tryz.prog Tryz.findRel_ren := {
 mixed := by kernel_rfl
 f6 := ⟨Tryz.f182.name, by decide, Tryz.func182.trans (congrArg some (by kernel_rfl))⟩
 t0 := Tryz.underlying0
 a0 := Tryz.isAgg0
 z0 := Tryz.sizeOf0
 v0 := Tryz.zeroValue0
 t3 := Tryz.underlying3
 a3 := Tryz.isAgg3
 z3 := Tryz.sizeOf3
 v3 := Tryz.zeroValue3
 t4 := Tryz.underlying4
 a4 := Tryz.isAgg4
 z4 := Tryz.sizeOf4
 v4 := Tryz.zeroValue4
 t22 := Tryz.underlying24
 a22 := Tryz.isAgg24
 z22 := Tryz.sizeOf24
 v22 := Tryz.zeroValue24
 t25 := Tryz.underlying175
 a25 := Tryz.isAgg175
 z25 := Tryz.sizeOf175
 v25 := Tryz.zeroValue175 }
def Tryz.lays137_ren : Go.Shelf.Ren := ⟨fun | 137 => 149 | 217 => 184 | 266 => 217 | n => n, fun | 9 => 9 | 5 => 5 | 3 => 3 | n => n, fun | n => n⟩
theorem Tryz.lays137 : Go.Proofs.Lays.n137 Tryz.prog Tryz.lays137_ren := {
 mixed := by kernel_rfl
 f137 := Tryz.func149.trans (congrArg some (by kernel_rfl))
 f217 := Tryz.func184.trans (congrArg some (by kernel_rfl))
 f266 := Tryz.func217.trans (congrArg some (by kernel_rfl))
 t3 := Tryz.underlying3
 a3 := Tryz.isAgg3
 z3 := Tryz.sizeOf3
 v3 := Tryz.zeroValue3
 t5 := Tryz.underlying5
 a5 := Tryz.isAgg5
 z5 := Tryz.sizeOf5
 v5 := Tryz.zeroValue5
 t9 := Tryz.underlying9
 a9 := Tryz.isAgg9
 z9 := Tryz.sizeOf9
 v9 := Tryz.zeroValue9 }
open Go.RowKit in
theorem Tryz.strings_IndexByte (s : ByteArray) (c : Int) (w : World) :
  Calls Tryz.prog 149 #[.string s, .int .u8 c] w fun e w' => e = .returned (.int .i64 (Lib.indexByte s.data.toList c.toNat.toUInt8)) ∧ w' = w := Any.strings_IndexByte Tryz.lays137 s c w
def Tryz.lays103_ren : Go.Shelf.Ren := ⟨fun | 103 => 131 | 210 => 171 | 206 => 148 | n => n, fun | 9 => 9 | 4 => 4 | 24 => 78 | 3 => 3 | n => n, fun | n => n⟩
theorem Tryz.lays103 : Go.Proofs.Lays.n103 Tryz.prog Tryz.lays103_ren := {
 mixed := by kernel_rfl
 f103 := Tryz.func131.trans (congrArg some (by kernel_rfl))
 f206 := Tryz.func148.trans (congrArg some (by kernel_rfl))
 f210 := Tryz.func171.trans (congrArg some (by kernel_rfl))
 t3 := Tryz.underlying3
 a3 := Tryz.isAgg3
 z3 := Tryz.sizeOf3
 v3 := Tryz.zeroValue3
 t4 := Tryz.underlying4
 a4 := Tryz.isAgg4
 z4 := Tryz.sizeOf4
 v4 := Tryz.zeroValue4
 t9 := Tryz.underlying9
 a9 := Tryz.isAgg9
 z9 := Tryz.sizeOf9
 v9 := Tryz.zeroValue9
 t24 := Tryz.underlying78
 a24 := Tryz.isAgg78
 z24 := Tryz.sizeOf78
 v24 := Tryz.zeroValue78 }
open Go.RowKit in
theorem Tryz.strings_CutPrefix (s p : ByteArray) (w : World) :
  Calls Tryz.prog 131 #[.string s, .string p] w fun e w' => e = .returned (.tuple #[.string ⟨(Lib.trimPrefix s.data.toList p.data.toList).toArray⟩, .bool (Lib.hasPrefix s.data.toList p.data.toList)]) ∧ w' = w := Any.strings_CutPrefix Tryz.lays103 s p w
def Tryz.lays172_ren : Go.Shelf.Ren := ⟨fun | 172 => 130 | 244 => 169 | 245 => 170 | 247 => 206 | 279 => 207 | 280 => 208 | 281 => 209 | 282 => 210 | 287 => 236 | 316 => 237 | 171 => 239 | 205 => 238 | 321 => 251 | 322 => 252 | 243 => 253 | 246 => 261 | 283 => 263 | 284 => 264 | 285 => 265 | 286 => 266 | 129 => 268 | 317 => 267 | 318 => 269 | 319 => 270 | 320 => 271 | 337 => 272 | 338 => 273 | n => n, fun | 9 => 9 | 3 => 3 | 75 => 76 | 76 => 80 | 4 => 4 | 5 => 5 | 167 => 216 | 37 => 72 | 0 => 0 | 85 => 217 | 2 => 2 | 168 => 219 | 53 => 245 | 175 => 246 | 46 => 44 | 210 => 249 | 127 => 102 | 145 => 262 | 143 => 260 | 21 => 21 | 171 => 267 | 173 => 270 | 212 => 277 | 51 => 204 | 20 => 20 | 213 => 278 | 232 => 282 | 233 => 283 | 80 => 82 | n => n, fun | 15 => 1 | 16 => 2 | 17 => 5 | 18 => 6 | 19 => 7 | n => n⟩
theorem Tryz.lays172 : Go.Proofs.Lays.n172 Tryz.prog Tryz.lays172_ren := {
 mixed := by kernel_rfl
 f129 := Tryz.func268.trans (congrArg some (by kernel_rfl))
 f171 := Tryz.func239.trans (congrArg some (by kernel_rfl))
 f172 := Tryz.func130.trans (congrArg some (by kernel_rfl))
 f205 := Tryz.func238.trans (congrArg some (by kernel_rfl))
 f243 := Tryz.func253.trans (congrArg some (by kernel_rfl))
 f244 := Tryz.func169.trans (congrArg some (by kernel_rfl))
 f245 := Tryz.func170.trans (congrArg some (by kernel_rfl))
 f246 := Tryz.func261.trans (congrArg some (by kernel_rfl))
 f247 := Tryz.func206.trans (congrArg some (by kernel_rfl))
 f279 := Tryz.func207.trans (congrArg some (by kernel_rfl))
 f280 := Tryz.func208.trans (congrArg some (by kernel_rfl))
 f281 := Tryz.func209.trans (congrArg some (by kernel_rfl))
 f282 := Tryz.func210.trans (congrArg some (by kernel_rfl))
 f283 := Tryz.func263.trans (congrArg some (by kernel_rfl))
 f284 := Tryz.func264.trans (congrArg some (by kernel_rfl))
 f285 := Tryz.func265.trans (congrArg some (by kernel_rfl))
 f286 := Tryz.func266.trans (congrArg some (by kernel_rfl))
 f287 := Tryz.func236.trans (congrArg some (by kernel_rfl))
 f316 := Tryz.func237.trans (congrArg some (by kernel_rfl))
 f317 := Tryz.func267.trans (congrArg some (by kernel_rfl))
 f318 := Tryz.func269.trans (congrArg some (by kernel_rfl))
 f319 := Tryz.func270.trans (congrArg some (by kernel_rfl))
 f320 := Tryz.func271.trans (congrArg some (by kernel_rfl))
 f321 := Tryz.func251.trans (congrArg some (by kernel_rfl))
 f322 := Tryz.func252.trans (congrArg some (by kernel_rfl))
 f337 := Tryz.func272.trans (congrArg some (by kernel_rfl))
 f338 := Tryz.func273.trans (congrArg some (by kernel_rfl))
 t0 := Tryz.underlying0
 a0 := Tryz.isAgg0
 z0 := Tryz.sizeOf0
 v0 := Tryz.zeroValue0
 t2 := Tryz.underlying2
 a2 := Tryz.isAgg2
 z2 := Tryz.sizeOf2
 v2 := Tryz.zeroValue2
 t3 := Tryz.underlying3
 a3 := Tryz.isAgg3
 z3 := Tryz.sizeOf3
 v3 := Tryz.zeroValue3
 t4 := Tryz.underlying4
 a4 := Tryz.isAgg4
 z4 := Tryz.sizeOf4
 v4 := Tryz.zeroValue4
 t5 := Tryz.underlying5
 a5 := Tryz.isAgg5
 z5 := Tryz.sizeOf5
 v5 := Tryz.zeroValue5
 t9 := Tryz.underlying9
 a9 := Tryz.isAgg9
 z9 := Tryz.sizeOf9
 v9 := Tryz.zeroValue9
 t20 := Tryz.underlying20
 a20 := Tryz.isAgg20
 z20 := Tryz.sizeOf20
 v20 := Tryz.zeroValue20
 t21 := Tryz.underlying21
 a21 := Tryz.isAgg21
 z21 := Tryz.sizeOf21
 v21 := Tryz.zeroValue21
 t37 := Tryz.underlying72
 a37 := Tryz.isAgg72
 z37 := Tryz.sizeOf72
 v37 := Tryz.zeroValue72
 t46 := Tryz.underlying44
 a46 := Tryz.isAgg44
 z46 := Tryz.sizeOf44
 v46 := Tryz.zeroValue44
 t51 := Tryz.underlying204
 a51 := Tryz.isAgg204
 z51 := Tryz.sizeOf204
 v51 := Tryz.zeroValue204
 t53 := Tryz.underlying245
 a53 := Tryz.isAgg245
 z53 := Tryz.sizeOf245
 v53 := Tryz.zeroValue245
 t75 := Tryz.underlying76
 a75 := Tryz.isAgg76
 z75 := Tryz.sizeOf76
 v75 := Tryz.zeroValue76
 t76 := Tryz.underlying80
 a76 := Tryz.isAgg80
 z76 := Tryz.sizeOf80
 v76 := Tryz.zeroValue80
 t85 := Tryz.underlying217
 a85 := Tryz.isAgg217
 z85 := Tryz.sizeOf217
 v85 := Tryz.zeroValue217
 t127 := Tryz.underlying102
 a127 := Tryz.isAgg102
 z127 := Tryz.sizeOf102
 v127 := Tryz.zeroValue102
 t143 := Tryz.underlying260
 a143 := Tryz.isAgg260
 z143 := Tryz.sizeOf260
 v143 := Tryz.zeroValue260
 t145 := Tryz.underlying262
 a145 := Tryz.isAgg262
 z145 := Tryz.sizeOf262
 v145 := Tryz.zeroValue262
 t167 := Tryz.underlying216
 a167 := Tryz.isAgg216
 z167 := Tryz.sizeOf216
 v167 := Tryz.zeroValue216
 t168 := Tryz.underlying219
 a168 := Tryz.isAgg219
 z168 := Tryz.sizeOf219
 v168 := Tryz.zeroValue219
 t171 := Tryz.underlying267
 a171 := Tryz.isAgg267
 z171 := Tryz.sizeOf267
 v171 := Tryz.zeroValue267
 t173 := Tryz.underlying270
 a173 := Tryz.isAgg270
 z173 := Tryz.sizeOf270
 v173 := Tryz.zeroValue270
 t175 := Tryz.underlying246
 a175 := Tryz.isAgg246
 z175 := Tryz.sizeOf246
 v175 := Tryz.zeroValue246
 t210 := Tryz.underlying249
 a210 := Tryz.isAgg249
 z210 := Tryz.sizeOf249
 v210 := Tryz.zeroValue249
 t212 := Tryz.underlying277
 a212 := Tryz.isAgg277
 z212 := Tryz.sizeOf277
 v212 := Tryz.zeroValue277
 t213 := Tryz.underlying278
 a213 := Tryz.isAgg278
 z213 := Tryz.sizeOf278
 t232 := Tryz.underlying282
 a232 := Tryz.isAgg282
 z232 := Tryz.sizeOf282
 v232 := Tryz.zeroValue282
 t233 := Tryz.underlying283
 a233 := Tryz.isAgg283
 z233 := Tryz.sizeOf283
 v233 := Tryz.zeroValue283
 g15 := by kernel_rfl
 g16 := by kernel_rfl
 g17 := by kernel_rfl
 g18 := by kernel_rfl
 g19 := by kernel_rfl }
open Go.RowKit in
theorem Tryz.strconv_Atoi (s : ByteArray) (n : Int) (hl : s.size ≤ 18) (h : Lib.atoi s.data.toList = some n) (w : World) :
  Calls Tryz.prog 130 #[.string s] w fun e w' => e = .returned (.tuple #[.int .i64 n, .nilIface]) ∧ ∃ t, w' = Lib.bytesWorld w 5 t := Any.strconv_Atoi Tryz.lays172 s n hl h w
def Tryz.lays143_ren : Go.Shelf.Ren := ⟨fun | 143 => 228 | 219 => 159 | 217 => 184 | 225 => 190 | 224 => 191 | 267 => 192 | 266 => 217 | 314 => 223 | n => n, fun | 9 => 9 | 3 => 3 | 4 => 4 | 5 => 5 | 46 => 44 | 146 => 205 | 51 => 204 | n => n, fun | 1 => 0 | n => n⟩
theorem Tryz.lays143 : Go.Proofs.Lays.n143 Tryz.prog Tryz.lays143_ren := {
 mixed := by kernel_rfl
 f143 := Tryz.func228.trans (congrArg some (by kernel_rfl))
 f217 := Tryz.func184.trans (congrArg some (by kernel_rfl))
 f219 := Tryz.func159.trans (congrArg some (by kernel_rfl))
 f224 := Tryz.func191.trans (congrArg some (by kernel_rfl))
 f225 := Tryz.func190.trans (congrArg some (by kernel_rfl))
 f266 := Tryz.func217.trans (congrArg some (by kernel_rfl))
 f267 := Tryz.func192.trans (congrArg some (by kernel_rfl))
 f314 := Tryz.func223.trans (congrArg some (by kernel_rfl))
 t3 := Tryz.underlying3
 a3 := Tryz.isAgg3
 z3 := Tryz.sizeOf3
 v3 := Tryz.zeroValue3
 t4 := Tryz.underlying4
 a4 := Tryz.isAgg4
 z4 := Tryz.sizeOf4
 v4 := Tryz.zeroValue4
 t5 := Tryz.underlying5
 a5 := Tryz.isAgg5
 z5 := Tryz.sizeOf5
 v5 := Tryz.zeroValue5
 t9 := Tryz.underlying9
 a9 := Tryz.isAgg9
 z9 := Tryz.sizeOf9
 v9 := Tryz.zeroValue9
 t46 := Tryz.underlying44
 a46 := Tryz.isAgg44
 z46 := Tryz.sizeOf44
 v46 := Tryz.zeroValue44
 t51 := Tryz.underlying204
 a51 := Tryz.isAgg204
 z51 := Tryz.sizeOf204
 v51 := Tryz.zeroValue204
 t146 := Tryz.underlying205
 a146 := Tryz.isAgg205
 z146 := Tryz.sizeOf205
 v146 := Tryz.zeroValue205
 g1 := by kernel_rfl }
open Go.RowKit Go.Lib in
theorem Tryz.strings_Index_one (s : ByteArray) (c : UInt8) (w : World) :
  Calls Tryz.prog 228 #[.string s, .string ⟨#[c]⟩] w fun e w' => e = .returned (.int .i64 (Lib.indexByte s.data.toList c)) ∧ w' = w := Any.strings_Index_one Tryz.lays143 s c w
def Tryz.lays144_ren : Go.Shelf.Ren := ⟨fun | 144 => 201 | 143 => 228 | 219 => 159 | 217 => 184 | 225 => 190 | 224 => 191 | 267 => 192 | 266 => 217 | 314 => 223 | n => n, fun | 9 => 9 | 4 => 4 | 3 => 3 | 5 => 5 | 46 => 44 | 146 => 205 | 51 => 204 | n => n, fun | 1 => 0 | n => n⟩
theorem Tryz.lays144 : Go.Proofs.Lays.n144 Tryz.prog Tryz.lays144_ren := {
 mixed := by kernel_rfl
 f143 := Tryz.func228.trans (congrArg some (by kernel_rfl))
 f144 := Tryz.func201.trans (congrArg some (by kernel_rfl))
 f217 := Tryz.func184.trans (congrArg some (by kernel_rfl))
 f219 := Tryz.func159.trans (congrArg some (by kernel_rfl))
 f224 := Tryz.func191.trans (congrArg some (by kernel_rfl))
 f225 := Tryz.func190.trans (congrArg some (by kernel_rfl))
 f266 := Tryz.func217.trans (congrArg some (by kernel_rfl))
 f267 := Tryz.func192.trans (congrArg some (by kernel_rfl))
 f314 := Tryz.func223.trans (congrArg some (by kernel_rfl))
 t3 := Tryz.underlying3
 a3 := Tryz.isAgg3
 z3 := Tryz.sizeOf3
 v3 := Tryz.zeroValue3
 t4 := Tryz.underlying4
 a4 := Tryz.isAgg4
 z4 := Tryz.sizeOf4
 v4 := Tryz.zeroValue4
 t5 := Tryz.underlying5
 a5 := Tryz.isAgg5
 z5 := Tryz.sizeOf5
 v5 := Tryz.zeroValue5
 t9 := Tryz.underlying9
 a9 := Tryz.isAgg9
 z9 := Tryz.sizeOf9
 v9 := Tryz.zeroValue9
 t46 := Tryz.underlying44
 a46 := Tryz.isAgg44
 z46 := Tryz.sizeOf44
 v46 := Tryz.zeroValue44
 t51 := Tryz.underlying204
 a51 := Tryz.isAgg204
 z51 := Tryz.sizeOf204
 v51 := Tryz.zeroValue204
 t146 := Tryz.underlying205
 a146 := Tryz.isAgg205
 z146 := Tryz.sizeOf205
 v146 := Tryz.zeroValue205
 g1 := by kernel_rfl }
open Go.RowKit Go.Lib in
theorem Tryz.strings_Contains_one (s : ByteArray) (c : UInt8) (w : World) :
  Calls Tryz.prog 201 #[.string s, .string ⟨#[c]⟩] w fun e w' => e = .returned (.bool (decide (0 ≤ Lib.indexByte s.data.toList c))) ∧ w' = w := Any.strings_Contains_one Tryz.lays144 s c w
def Tryz.lays145_ren : Go.Shelf.Ren := ⟨fun | 145 => 70 | 220 => 118 | 219 => 159 | 217 => 184 | 225 => 190 | 224 => 191 | 267 => 192 | 266 => 217 | 314 => 223 | n => n, fun | 9 => 9 | 4 => 4 | 59 => 90 | 3 => 3 | 5 => 5 | 46 => 44 | 146 => 205 | 51 => 204 | n => n, fun | 1 => 0 | n => n⟩
theorem Tryz.lays145 : Go.Proofs.Lays.n145 Tryz.prog Tryz.lays145_ren := {
 mixed := by kernel_rfl
 f145 := Tryz.func70.trans (congrArg some (by kernel_rfl))
 f217 := Tryz.func184.trans (congrArg some (by kernel_rfl))
 f219 := Tryz.func159.trans (congrArg some (by kernel_rfl))
 f220 := Tryz.func118.trans (congrArg some (by kernel_rfl))
 f224 := Tryz.func191.trans (congrArg some (by kernel_rfl))
 f225 := Tryz.func190.trans (congrArg some (by kernel_rfl))
 f266 := Tryz.func217.trans (congrArg some (by kernel_rfl))
 f267 := Tryz.func192.trans (congrArg some (by kernel_rfl))
 f314 := Tryz.func223.trans (congrArg some (by kernel_rfl))
 t3 := Tryz.underlying3
 a3 := Tryz.isAgg3
 z3 := Tryz.sizeOf3
 v3 := Tryz.zeroValue3
 t4 := Tryz.underlying4
 a4 := Tryz.isAgg4
 z4 := Tryz.sizeOf4
 v4 := Tryz.zeroValue4
 t5 := Tryz.underlying5
 a5 := Tryz.isAgg5
 z5 := Tryz.sizeOf5
 v5 := Tryz.zeroValue5
 t9 := Tryz.underlying9
 a9 := Tryz.isAgg9
 z9 := Tryz.sizeOf9
 v9 := Tryz.zeroValue9
 t46 := Tryz.underlying44
 a46 := Tryz.isAgg44
 z46 := Tryz.sizeOf44
 v46 := Tryz.zeroValue44
 t51 := Tryz.underlying204
 a51 := Tryz.isAgg204
 z51 := Tryz.sizeOf204
 v51 := Tryz.zeroValue204
 t59 := Tryz.underlying90
 a59 := Tryz.isAgg90
 z59 := Tryz.sizeOf90
 v59 := Tryz.zeroValue90
 t146 := Tryz.underlying205
 a146 := Tryz.isAgg205
 z146 := Tryz.sizeOf205
 v146 := Tryz.zeroValue205
 g1 := by kernel_rfl }
open Go.RowKit Go.Lib in
theorem Tryz.strings_Cut (s sep : ByteArray) (m : Int) (w : World) (hs : s.size < 4294967281) (hm : w.cell? ⟨0, 0, none⟩ = some (.int .i64 m)) :
  Calls Tryz.prog 70 #[.string s, .string sep] w fun e w' => e = .returned (.tuple #[.string ⟨(Lib.cut s.data.toList sep.data.toList).1.toArray⟩, .string ⟨(Lib.cut s.data.toList sep.data.toList).2.1.toArray⟩, .bool (Lib.cut s.data.toList sep.data.toList).2.2]) ∧ ∃ n, w' = w.drewN n := Any.strings_Cut Tryz.lays145 s sep m w hs hm
def Tryz.lays138_ren : Go.Shelf.Ren := ⟨fun | 138 => 203 | 195 => 229 | 218 => 230 | 143 => 228 | 219 => 159 | 217 => 184 | 225 => 190 | 224 => 191 | 267 => 192 | 266 => 217 | 314 => 223 | n => n, fun | 9 => 9 | 3 => 3 | 4 => 4 | 5 => 5 | 0 => 0 | 46 => 44 | 146 => 205 | 51 => 204 | n => n, fun | 1 => 0 | n => n⟩
theorem Tryz.lays138 : Go.Proofs.Lays.n138 Tryz.prog Tryz.lays138_ren := {
 mixed := by kernel_rfl
 f138 := Tryz.func203.trans (congrArg some (by kernel_rfl))
 f143 := Tryz.func228.trans (congrArg some (by kernel_rfl))
 f195 := Tryz.func229.trans (congrArg some (by kernel_rfl))
 f217 := Tryz.func184.trans (congrArg some (by kernel_rfl))
 f218 := Tryz.func230.trans (congrArg some (by kernel_rfl))
 f219 := Tryz.func159.trans (congrArg some (by kernel_rfl))
 f224 := Tryz.func191.trans (congrArg some (by kernel_rfl))
 f225 := Tryz.func190.trans (congrArg some (by kernel_rfl))
 f266 := Tryz.func217.trans (congrArg some (by kernel_rfl))
 f267 := Tryz.func192.trans (congrArg some (by kernel_rfl))
 f314 := Tryz.func223.trans (congrArg some (by kernel_rfl))
 t0 := Tryz.underlying0
 a0 := Tryz.isAgg0
 z0 := Tryz.sizeOf0
 v0 := Tryz.zeroValue0
 t3 := Tryz.underlying3
 a3 := Tryz.isAgg3
 z3 := Tryz.sizeOf3
 v3 := Tryz.zeroValue3
 t4 := Tryz.underlying4
 a4 := Tryz.isAgg4
 z4 := Tryz.sizeOf4
 v4 := Tryz.zeroValue4
 t5 := Tryz.underlying5
 a5 := Tryz.isAgg5
 z5 := Tryz.sizeOf5
 v5 := Tryz.zeroValue5
 t9 := Tryz.underlying9
 a9 := Tryz.isAgg9
 z9 := Tryz.sizeOf9
 v9 := Tryz.zeroValue9
 t46 := Tryz.underlying44
 a46 := Tryz.isAgg44
 z46 := Tryz.sizeOf44
 v46 := Tryz.zeroValue44
 t51 := Tryz.underlying204
 a51 := Tryz.isAgg204
 z51 := Tryz.sizeOf204
 v51 := Tryz.zeroValue204
 t146 := Tryz.underlying205
 a146 := Tryz.isAgg205
 z146 := Tryz.sizeOf205
 v146 := Tryz.zeroValue205
 g1 := by kernel_rfl }
open Go.RowKit Go.Lib in
theorem Tryz.strings_Count_one (s : ByteArray) (c : UInt8) (w : World) :
  Calls Tryz.prog 203 #[.string s, .string ⟨#[c]⟩] w fun e w' => e = .returned (.int .i64 (Lib.countByte s.data.toList c)) ∧ w' = w := Any.strings_Count_one Tryz.lays138 s c w
def Tryz.lays148_ren : Go.Shelf.Ren := ⟨fun | 148 => 117 | 222 => 157 | 223 => 158 | 269 => 189 | n => n, fun | 9 => 9 | 3 => 3 | 4 => 4 | 5 => 5 | 146 => 205 | 51 => 204 | 46 => 44 | n => n, fun | n => n⟩
theorem Tryz.lays148 : Go.Proofs.Lays.n148 Tryz.prog Tryz.lays148_ren := {
 mixed := by kernel_rfl
 f148 := Tryz.func117.trans (congrArg some (by kernel_rfl))
 f222 := Tryz.func157.trans (congrArg some (by kernel_rfl))
 f223 := Tryz.func158.trans (congrArg some (by kernel_rfl))
 f269 := Tryz.func189.trans (congrArg some (by kernel_rfl))
 t3 := Tryz.underlying3
 a3 := Tryz.isAgg3
 z3 := Tryz.sizeOf3
 v3 := Tryz.zeroValue3
 t4 := Tryz.underlying4
 a4 := Tryz.isAgg4
 z4 := Tryz.sizeOf4
 v4 := Tryz.zeroValue4
 t5 := Tryz.underlying5
 a5 := Tryz.isAgg5
 z5 := Tryz.sizeOf5
 v5 := Tryz.zeroValue5
 t9 := Tryz.underlying9
 a9 := Tryz.isAgg9
 z9 := Tryz.sizeOf9
 v9 := Tryz.zeroValue9
 t46 := Tryz.underlying44
 a46 := Tryz.isAgg44
 z46 := Tryz.sizeOf44
 v46 := Tryz.zeroValue44
 t51 := Tryz.underlying204
 a51 := Tryz.isAgg204
 z51 := Tryz.sizeOf204
 v51 := Tryz.zeroValue204
 t146 := Tryz.underlying205
 a146 := Tryz.isAgg205
 z146 := Tryz.sizeOf205
 v146 := Tryz.zeroValue205 }
open Go.RowKit Go.Lib in
theorem Tryz.strings_LastIndex_one (s sub : ByteArray) (h1 : sub.size = 1) (hs : s.size < 4611686018427387904) (w : World) :
  Calls Tryz.prog 117 #[.string s, .string sub] w fun e w' => e = .returned (.int .i64 (Lib.lastIndexByte s ((sub[0]'(by omega)).toNat : Int))) ∧ w' = w := Any.strings_LastIndex_one Tryz.lays148 s sub h1 hs w
def Tryz.lays99_ren : Go.Shelf.Ren := ⟨fun | 99 => 102 | 206 => 148 | n => n, fun | 9 => 9 | 4 => 4 | 3 => 3 | n => n, fun | n => n⟩
theorem Tryz.lays99 : Go.Proofs.Lays.n99 Tryz.prog Tryz.lays99_ren := {
 mixed := by kernel_rfl
 f99 := Tryz.func102.trans (congrArg some (by kernel_rfl))
 f206 := Tryz.func148.trans (congrArg some (by kernel_rfl))
 t3 := Tryz.underlying3
 a3 := Tryz.isAgg3
 z3 := Tryz.sizeOf3
 v3 := Tryz.zeroValue3
 t4 := Tryz.underlying4
 a4 := Tryz.isAgg4
 z4 := Tryz.sizeOf4
 v4 := Tryz.zeroValue4
 t9 := Tryz.underlying9
 a9 := Tryz.isAgg9
 z9 := Tryz.sizeOf9
 v9 := Tryz.zeroValue9 }
open Go.RowKit Go.Lib in
theorem Tryz.strings_HasPrefix (s p : ByteArray) (w : World) :
  Calls Tryz.prog 102 #[.string s, .string p] w fun e w' => e = .returned (.bool (Lib.hasPrefix s.data.toList p.data.toList)) ∧ w' = w := Any.strings_HasPrefix Tryz.lays99 s p w
def Tryz.lays102_ren : Go.Shelf.Ren := ⟨fun | 102 => 58 | 209 => 100 | 207 => 147 | n => n, fun | 9 => 9 | 4 => 4 | 3 => 3 | n => n, fun | n => n⟩
theorem Tryz.lays102 : Go.Proofs.Lays.n102 Tryz.prog Tryz.lays102_ren := {
 mixed := by kernel_rfl
 f102 := Tryz.func58.trans (congrArg some (by kernel_rfl))
 f207 := Tryz.func147.trans (congrArg some (by kernel_rfl))
 f209 := Tryz.func100.trans (congrArg some (by kernel_rfl))
 t3 := Tryz.underlying3
 a3 := Tryz.isAgg3
 z3 := Tryz.sizeOf3
 v3 := Tryz.zeroValue3
 t4 := Tryz.underlying4
 a4 := Tryz.isAgg4
 z4 := Tryz.sizeOf4
 v4 := Tryz.zeroValue4
 t9 := Tryz.underlying9
 a9 := Tryz.isAgg9
 z9 := Tryz.sizeOf9
 v9 := Tryz.zeroValue9 }
open Go.RowKit Go.Lib in
theorem Tryz.strings_TrimSuffix (s p : ByteArray) (w : World) (hs : s.size ≤ 9223372036854775807) :
  Calls Tryz.prog 58 #[.string s, .string p] w fun e w' => e = .returned (.string ⟨(Lib.trimSuffix s.data.toList p.data.toList).toArray⟩) ∧ w' = w := Any.strings_TrimSuffix Tryz.lays102 s p w hs
def Tryz.lays146_ren : Go.Shelf.Ren := ⟨fun | 146 => 195 | 221 => 225 | 268 => 246 | 138 => 203 | 143 => 228 | 195 => 229 | 197 => 258 | 218 => 230 | 219 => 159 | 260 => 262 | 217 => 184 | 225 => 190 | 224 => 191 | 267 => 192 | 266 => 217 | 314 => 223 | n => n, fun | 9 => 9 | 31 => 28 | 3 => 3 | 4 => 4 | 0 => 0 | 105 => 264 | 21 => 21 | 5 => 5 | 46 => 44 | 119 => 272 | 139 => 275 | 138 => 274 | 146 => 205 | 51 => 204 | n => n, fun | 1 => 0 | 3 => 3 | 4 => 4 | n => n⟩
theorem Tryz.lays146 : Go.Proofs.Lays.n146 Tryz.prog Tryz.lays146_ren := {
 mixed := by kernel_rfl
 f138 := Tryz.func203.trans (congrArg some (by kernel_rfl))
 f143 := Tryz.func228.trans (congrArg some (by kernel_rfl))
 f146 := Tryz.func195.trans (congrArg some (by kernel_rfl))
 f195 := Tryz.func229.trans (congrArg some (by kernel_rfl))
 f197 := Tryz.func258.trans (congrArg some (by kernel_rfl))
 f217 := Tryz.func184.trans (congrArg some (by kernel_rfl))
 f218 := Tryz.func230.trans (congrArg some (by kernel_rfl))
 f219 := Tryz.func159.trans (congrArg some (by kernel_rfl))
 f221 := Tryz.func225.trans (congrArg some (by kernel_rfl))
 f224 := Tryz.func191.trans (congrArg some (by kernel_rfl))
 f225 := Tryz.func190.trans (congrArg some (by kernel_rfl))
 f260 := Tryz.func262.trans (congrArg some (by kernel_rfl))
 f266 := Tryz.func217.trans (congrArg some (by kernel_rfl))
 f267 := Tryz.func192.trans (congrArg some (by kernel_rfl))
 f268 := Tryz.func246.trans (congrArg some (by kernel_rfl))
 f314 := Tryz.func223.trans (congrArg some (by kernel_rfl))
 t0 := Tryz.underlying0
 a0 := Tryz.isAgg0
 z0 := Tryz.sizeOf0
 v0 := Tryz.zeroValue0
 t3 := Tryz.underlying3
 a3 := Tryz.isAgg3
 z3 := Tryz.sizeOf3
 v3 := Tryz.zeroValue3
 t4 := Tryz.underlying4
 a4 := Tryz.isAgg4
 z4 := Tryz.sizeOf4
 v4 := Tryz.zeroValue4
 t5 := Tryz.underlying5
 a5 := Tryz.isAgg5
 z5 := Tryz.sizeOf5
 v5 := Tryz.zeroValue5
 t9 := Tryz.underlying9
 a9 := Tryz.isAgg9
 z9 := Tryz.sizeOf9
 v9 := Tryz.zeroValue9
 t21 := Tryz.underlying21
 a21 := Tryz.isAgg21
 z21 := Tryz.sizeOf21
 v21 := Tryz.zeroValue21
 t31 := Tryz.underlying28
 a31 := Tryz.isAgg28
 z31 := Tryz.sizeOf28
 v31 := Tryz.zeroValue28
 t46 := Tryz.underlying44
 a46 := Tryz.isAgg44
 z46 := Tryz.sizeOf44
 v46 := Tryz.zeroValue44
 t51 := Tryz.underlying204
 a51 := Tryz.isAgg204
 z51 := Tryz.sizeOf204
 v51 := Tryz.zeroValue204
 t105 := Tryz.underlying264
 a105 := Tryz.isAgg264
 z105 := Tryz.sizeOf264
 v105 := Tryz.zeroValue264
 t119 := Tryz.underlying272
 a119 := Tryz.isAgg272
 z119 := Tryz.sizeOf272
 t138 := Tryz.underlying274
 a138 := Tryz.isAgg274
 z138 := Tryz.sizeOf274
 v138 := Tryz.zeroValue274
 t139 := Tryz.underlying275
 a139 := Tryz.isAgg275
 z139 := Tryz.sizeOf275
 v139 := Tryz.zeroValue275
 t146 := Tryz.underlying205
 a146 := Tryz.isAgg205
 z146 := Tryz.sizeOf205
 v146 := Tryz.zeroValue205
 g1 := by kernel_rfl
 g3 := by kernel_rfl
 g4 := by kernel_rfl }
open Go.RowKit Go.Lib in
theorem Tryz.strings_Split (s sep : ByteArray) (m : Int) (w : World) (hs : s.size < 4294967281) (hm : w.cell? ⟨0, 0, none⟩ = some (.int .i64 m)) (h1 : 1 ≤ sep.size) :
  Calls Tryz.prog 195 #[.string s, .string sep] w fun e w' =>
   e = .returned (.slice (some ⟨w.heap.size, 0, none⟩) (Lib.countB s sep + 1) (Lib.countB s sep + 1)) ∧ w' = w.alloc (.cells ((Lib.splitB sep 0 (Lib.countB s sep) s).map Value.string).toArray 9) := Any.strings_Split Tryz.lays146 (by kernel_rfl) s sep m w hs hm h1
def Tryz.lays229_ren : Go.Shelf.Ren := ⟨fun | 229 => 178 | n => n, fun | 9 => 9 | 40 => 197 | 31 => 28 | 152 => 223 | 3 => 3 | 0 => 0 | 4 => 4 | 21 => 21 | 154 => 225 | n => n, fun | n => n⟩
theorem Tryz.lays229 : Go.Proofs.Lays.n229 Tryz.prog Tryz.lays229_ren := {
 mixed := by kernel_rfl
 f229 := Tryz.func178.trans (congrArg some (by kernel_rfl))
 t0 := Tryz.underlying0
 a0 := Tryz.isAgg0
 z0 := Tryz.sizeOf0
 v0 := Tryz.zeroValue0
 t3 := Tryz.underlying3
 a3 := Tryz.isAgg3
 z3 := Tryz.sizeOf3
 v3 := Tryz.zeroValue3
 t4 := Tryz.underlying4
 a4 := Tryz.isAgg4
 z4 := Tryz.sizeOf4
 v4 := Tryz.zeroValue4
 t9 := Tryz.underlying9
 a9 := Tryz.isAgg9
 z9 := Tryz.sizeOf9
 v9 := Tryz.zeroValue9
 t21 := Tryz.underlying21
 a21 := Tryz.isAgg21
 z21 := Tryz.sizeOf21
 v21 := Tryz.zeroValue21
 t31 := Tryz.underlying28
 a31 := Tryz.isAgg28
 z31 := Tryz.sizeOf28
 v31 := Tryz.zeroValue28
 t40 := Tryz.underlying197
 a40 := Tryz.isAgg197
 z40 := Tryz.sizeOf197
 v40 := Tryz.zeroValue197
 t152 := Tryz.underlying223
 a152 := Tryz.isAgg223
 z152 := Tryz.sizeOf223
 v152 := Tryz.zeroValue223
 t154 := Tryz.underlying225
 a154 := Tryz.isAgg225
 z154 := Tryz.sizeOf225
 v154 := Tryz.zeroValue225 }
open Go.RowKit Go.Lib in
theorem Tryz.strings_FieldsFunc (g : Nat) (lb : Array Value) (eg : ∀ args w, (callFunc g args).run Tryz.prog w = .ok (.enter g args) w) (p : Nat → Bool) (s : ByteArray) (w : World) (hs : s.size ≤ 4294967296) (hp : PredAt Tryz.prog g lb encR p w) :
  Calls Tryz.prog 178 #[.string s, .func (.func g) #[] lb] w fun e w' => ∃ A, e = .returned (.slice (some ⟨A, 0, none⟩) (Lib.goFieldsP p s).length (Lib.goFieldsP p s).length) ∧ w.heap.size ≤ A ∧
   w'.ownsRow w.heap.size 9 1 (.slice (some ⟨A, 0, none⟩) (Lib.goFieldsP p s).length (Lib.goFieldsP p s).length) (Lib.goFieldsP p s).length ((Lib.goFieldsP p s).map Value.string) ∧ Below w.heap.size w w' := Any.strings_FieldsFunc Tryz.lays229 g lb eg p s w hs hp (by kernel_rfl) (by kernel_rfl)
def Tryz.lays107_ren : Go.Shelf.Ren := ⟨fun | 107 => 139 | 108 => 180 | n => n, fun | 28 => 26 | 3 => 3 | 4 => 4 | 0 => 0 | n => n, fun | n => n⟩
theorem Tryz.lays107 : Go.Proofs.Lays.n107 Tryz.prog Tryz.lays107_ren := {
 mixed := by kernel_rfl
 f107 := Tryz.func139.trans (congrArg some (by kernel_rfl))
 f108 := Tryz.func180.trans (congrArg some (by kernel_rfl))
 t0 := Tryz.underlying0
 a0 := Tryz.isAgg0
 z0 := Tryz.sizeOf0
 v0 := Tryz.zeroValue0
 t3 := Tryz.underlying3
 a3 := Tryz.isAgg3
 z3 := Tryz.sizeOf3
 v3 := Tryz.zeroValue3
 t4 := Tryz.underlying4
 a4 := Tryz.isAgg4
 z4 := Tryz.sizeOf4
 v4 := Tryz.zeroValue4
 t28 := Tryz.underlying26
 a28 := Tryz.isAgg26
 z28 := Tryz.sizeOf26
 v28 := Tryz.zeroValue26 }
open Go.Lib in
theorem Tryz.slices_Contains_int (b off n c : Nat) (zs : List Int) (x : Int) (w : World) (hz : n ≤ zs.length) (hbig : n ≤ 9223372036854775807) (hc : ∀ j, j < zs.length → w.cell? ⟨b, off + j, none⟩ = some (.int .i64 (zs.getD j 0))) :
  Calls Tryz.prog 139 #[.slice (some ⟨b, off, none⟩) n c, .int .i64 x] w fun e w' => e = .returned (.bool ((zs.take n).contains x)) ∧ w' = w := Any.slices_Contains_int Tryz.lays107 b off n c zs x w hz hbig hc
open Go.Lib in
theorem Tryz.slices_Contains_int_empty (a : Option Addr) (c : Nat) (x : Int) (w : World) :
  Calls Tryz.prog 139 #[.slice a 0 c, .int .i64 x] w fun e w' => e = .returned (.bool false) ∧ w' = w := Any.slices_Contains_int_empty Tryz.lays107 a c x w
def Tryz.lays109_ren : Go.Shelf.Ren := ⟨fun | 109 => 89 | n => n, fun | 31 => 28 | 9 => 9 | 3 => 3 | 0 => 0 | 4 => 4 | n => n, fun | n => n⟩
theorem Tryz.lays109 : Go.Proofs.Lays.n109 Tryz.prog Tryz.lays109_ren := {
 mixed := by kernel_rfl
 f109 := Tryz.func89.trans (congrArg some (by kernel_rfl))
 t0 := Tryz.underlying0
 a0 := Tryz.isAgg0
 z0 := Tryz.sizeOf0
 v0 := Tryz.zeroValue0
 t3 := Tryz.underlying3
 a3 := Tryz.isAgg3
 z3 := Tryz.sizeOf3
 v3 := Tryz.zeroValue3
 t4 := Tryz.underlying4
 a4 := Tryz.isAgg4
 z4 := Tryz.sizeOf4
 v4 := Tryz.zeroValue4
 t9 := Tryz.underlying9
 a9 := Tryz.isAgg9
 z9 := Tryz.sizeOf9
 v9 := Tryz.zeroValue9
 t31 := Tryz.underlying28
 a31 := Tryz.isAgg28
 z31 := Tryz.sizeOf28
 v31 := Tryz.zeroValue28 }
open Go.Lib in
theorem Tryz.slices_Index_string (b off n c : Nat) (zs : List ByteArray) (x : ByteArray) (w : World) (hz : n ≤ zs.length) (hbig : n ≤ 9223372036854775807) (hc : ∀ j, j < zs.length → w.cell? ⟨b, off + j, none⟩ = some (.string (zs.getD j ByteArray.empty))) :
  Calls Tryz.prog 89 #[.slice (some ⟨b, off, none⟩) n c, .string x] w fun e w' => e = .returned (.int .i64 (Lib.idxOfS (zs.take n) x)) ∧ w' = w := Any.slices_Index_string Tryz.lays109 b off n c zs x w hz hbig hc
open Go.Lib in
theorem Tryz.slices_Index_string_empty (a : Option Addr) (c : Nat) (x : ByteArray) (w : World) :
  Calls Tryz.prog 89 #[.slice a 0 c, .string x] w fun e w' => e = .returned (.int .i64 (Lib.idxOfS [] x)) ∧ w' = w := Any.slices_Index_string_empty Tryz.lays109 a c x w
def Tryz.lays110_ren : Go.Shelf.Ren := ⟨fun | 110 => 164 | 109 => 89 | n => n, fun | 31 => 28 | 9 => 9 | 4 => 4 | 3 => 3 | 0 => 0 | n => n, fun | n => n⟩
theorem Tryz.lays110 : Go.Proofs.Lays.n110 Tryz.prog Tryz.lays110_ren := {
 mixed := by kernel_rfl
 f109 := Tryz.func89.trans (congrArg some (by kernel_rfl))
 f110 := Tryz.func164.trans (congrArg some (by kernel_rfl))
 t0 := Tryz.underlying0
 a0 := Tryz.isAgg0
 z0 := Tryz.sizeOf0
 v0 := Tryz.zeroValue0
 t3 := Tryz.underlying3
 a3 := Tryz.isAgg3
 z3 := Tryz.sizeOf3
 v3 := Tryz.zeroValue3
 t4 := Tryz.underlying4
 a4 := Tryz.isAgg4
 z4 := Tryz.sizeOf4
 v4 := Tryz.zeroValue4
 t9 := Tryz.underlying9
 a9 := Tryz.isAgg9
 z9 := Tryz.sizeOf9
 v9 := Tryz.zeroValue9
 t31 := Tryz.underlying28
 a31 := Tryz.isAgg28
 z31 := Tryz.sizeOf28
 v31 := Tryz.zeroValue28 }
open Go.Lib in
theorem Tryz.slices_Contains_string (b off n c : Nat) (zs : List ByteArray) (x : ByteArray) (w : World) (hz : n ≤ zs.length) (hbig : n ≤ 9223372036854775807) (hc : ∀ j, j < zs.length → w.cell? ⟨b, off + j, none⟩ = some (.string (zs.getD j ByteArray.empty))) :
  Calls Tryz.prog 164 #[.slice (some ⟨b, off, none⟩) n c, .string x] w fun e w' => e = .returned (.bool (Lib.containsS (zs.take n) x)) ∧ w' = w := Any.slices_Contains_string Tryz.lays110 b off n c zs x w hz hbig hc
open Go.Lib in
theorem Tryz.slices_Contains_string_empty (a : Option Addr) (c : Nat) (x : ByteArray) (w : World) :
  Calls Tryz.prog 164 #[.slice a 0 c, .string x] w fun e w' => e = .returned (.bool false) ∧ w' = w := Any.slices_Contains_string_empty Tryz.lays110 a c x w
def Tryz.lays113_ren : Go.Shelf.Ren := ⟨fun | 113 => 53 | n => n, fun | 28 => 26 | 3 => 3 | 4 => 4 | 9 => 9 | 20 => 20 | 0 => 0 | n => n, fun | n => n⟩
theorem Tryz.lays113 : Go.Proofs.Lays.n113 Tryz.prog Tryz.lays113_ren := {
 mixed := by kernel_rfl
 f113 := Tryz.func53.trans (congrArg some (by kernel_rfl))
 t0 := Tryz.underlying0
 a0 := Tryz.isAgg0
 z0 := Tryz.sizeOf0
 v0 := Tryz.zeroValue0
 t3 := Tryz.underlying3
 a3 := Tryz.isAgg3
 z3 := Tryz.sizeOf3
 v3 := Tryz.zeroValue3
 t4 := Tryz.underlying4
 a4 := Tryz.isAgg4
 z4 := Tryz.sizeOf4
 v4 := Tryz.zeroValue4
 t9 := Tryz.underlying9
 a9 := Tryz.isAgg9
 z9 := Tryz.sizeOf9
 v9 := Tryz.zeroValue9
 t20 := Tryz.underlying20
 a20 := Tryz.isAgg20
 z20 := Tryz.sizeOf20
 v20 := Tryz.zeroValue20
 t28 := Tryz.underlying26
 a28 := Tryz.isAgg26
 z28 := Tryz.sizeOf26
 v28 := Tryz.zeroValue26 }
open Go.Lib in
theorem Tryz.slices_Max_int (b off n c : Nat) (zs : List Int) (w : World) (hn : 0 < n) (hz : n ≤ zs.length) (hbig : n ≤ 9223372036854775807) (hc : ∀ j, j < zs.length → w.cell? ⟨b, off + j, none⟩ = some (.int .i64 (zs.getD j 0))) :
  Calls Tryz.prog 53 #[.slice (some ⟨b, off, none⟩) n c] w fun e w' => e = .returned (.int .i64 (Lib.maxOf (zs.take n))) ∧ w' = w := Any.slices_Max_int Tryz.lays113 b off n c zs w hn hz hbig hc
def Tryz.laysSlE041_f162_ren : Go.Shelf.Ren := ⟨fun | 41 => 162 | n => n, fun | 22 => 28 | 23 => 9 | 4 => 4 | n => n, fun | n => n⟩
theorem Tryz.laysSlE041_f162 : Go.Proofs.SlLaysE0.n41 Tryz.prog Tryz.laysSlE041_f162_ren := {
 mixed := by kernel_rfl
 f41 := ⟨Tryz.f162.name, by decide, Tryz.func162.trans (congrArg some (by kernel_rfl))⟩
 t4 := Tryz.underlying4
 a4 := Tryz.isAgg4
 z4 := Tryz.sizeOf4
 v4 := Tryz.zeroValue4
 t22 := Tryz.underlying28
 a22 := Tryz.isAgg28
 z22 := Tryz.sizeOf28
 v22 := Tryz.zeroValue28 }
open Go.RowKit Go.Lib in
theorem Tryz.slices_Clone (i0 : TypeInfo) (z : Value) (size bytes : Nat) (hi : Tryz.prog.info? 9 = some i0) (hz0 : i0.zero = some z) (hz1 : i0.size = size) (hz2 : i0.bytes = bytes) (hzs : z.cells.size = size) (hsz : 0 < size) (z23 : ∀ w, (Go.sizeOf 9).run Tryz.prog w = .ok size w) (b off n c : Nat) (news : List Value) (w : World) (hl : news.length = n * size) (hn : n ≤ maxLen) (hbig : n * bytes ≤ 140737488355328) (hc : ∀ j u, news[j]? = some u → w.cell? ⟨b, off + j, none⟩ = some u) (h1 : ∀ u ∈ news, u.oneCell' = true) :
  Calls Tryz.prog 162 #[.slice (some ⟨b, off, none⟩) n c] w fun e w' => ∃ v', e = .returned v' ∧ w'.ownsRow w.heap.size 9 size v' n news ∧ v' ≠ .slice none 0 0 ∧ Below w.heap.size w w' := AnyE.slices_Clone Tryz.laysSlE041_f162 i0 z size bytes hi hz0 hz1 hz2 hzs hsz z23 b off n c news w hl hn hbig hc h1
end Go.Proofs
namespace Go.Proofs.YtdjkedcpehhmnaaGreatDoor
open Go Go.RowKit
set_option linter.unusedVariables false
set_option linter.unusedSimpArgs false
set_option maxRecDepth 100000
theorem below_bytes (w : World) (e : TypeId) (s : ByteArray) : Below w.heap.size w (Lib.bytesWorld w e s) := by
 have h1 : Below w.heap.size w (w.drew.alloc (.cells (Lib.bytesCells w e s) e)) := (show Below w.heap.size w w.drew from below_dn ⟨1, rfl⟩).alloc (Nat.le_refl _) _
 have h2 : Fr (fun k => k = w.heap.size) w (Lib.bytesWorld w e s) := Fr.freeze (M := fun k => k = w.heap.size) (p := ⟨w.heap.size, (Lib.bytesCells w e s).size, none⟩) (Fr.of_below h1 _) (fun h => absurd h (by simp)) 1
 exact h2.below _ (Nat.le_refl _) (fun k hk e => by omega)
theorem atoi_any (s : ByteArray) (w : World) (h0 : s.data.toList ≠ []) (hs : s.size ≤ 18) (h : s.data.toList.all isDigit = true) (n : Nat) (hn : decS s.data.toList = n) :
  Calls Tryz.prog 130 #[.string s] w fun e w' => e = .returned (.tuple #[.int .i64 n, .nilIface]) ∧ Below w.heap.size w w' := by
 refine (Tryz.strconv_Atoi s n hs (by rw [atoi_digits _ h0 h, hn]) w).mono ?_
 rintro e w' ⟨rfl, t, rfl⟩
 exact ⟨rfl, below_bytes _ _ _⟩
def numK (s : Str) : Int × Bool := if longB s 5 isDigit = true then (if decS s ≤ 65535 then ((decS s : Nat), true) else (0, false)) else (0, false)
theorem longB_true {s : Str} {n : Nat} {p : UInt8 → Bool} (h : longB s n p = true) : s ≠ [] ∧ s.length ≤ n ∧ s.all p = true := by
 unfold longB at h
 simp only [Bool.and_eq_true, decide_eq_true_eq] at h
 exact ⟨by intro e; subst e; simp at h, by omega, h.2⟩
set_option maxHeartbeats 1000000 in
theorem keysNumber_any (s : ByteArray) (w : World) (h63 : s.size ≤ 9223372036854775807) (v : Int) (b : Bool) (hv : numK s.data.toList = (v, b)) :
  Calls Tryz.prog 87 #[.string s] w fun e w' => e = .returned (.tuple #[.int .i64 v, .bool b]) ∧ Below w.heap.size w w' := by
 unfold numK at hv
 cases hl : longB s.data.toList 5 isDigit with
 | false =>
  rw [hl, if_neg (by simp)] at hv
  obtain ⟨rfl, rfl⟩ : 0 = v ∧ false = b := by simpa using hv
  have HL := h_ (long_any s 5 122 #[] #[] isDigit false w h63 enters_digit (fun c => digit_any c w) hl)
  clear hv hl
  go_enter Tryz.func87, Tryz.ntmps87
  go_wp2_with fail
  refine HL.out.mono ?_
  rintro e w1 ⟨rfl, rfl⟩
  go_wp2_with fail
  go_ret2
  exact ⟨rfl, Below.refl _ _⟩
 | true =>
  rw [hl, if_pos rfl] at hv
  have HL := h_ (long_any s 5 122 #[] #[] isDigit true w h63 enters_digit (fun c => digit_any c w) hl)
  obtain ⟨h0, h5, hd⟩ := longB_true (n := 5) hl
  have hsz : s.data.toList.length = s.size := by simp
  obtain ⟨n, hn⟩ : ∃ n, decS s.data.toList = n := ⟨_, rfl⟩
  have HA := h_ (atoi_any s w h0 (by omega) hd n hn)
  rw [hn] at hv
  clear hl h0 h5 hd hn hsz
  by_cases hle : n ≤ 65535
  ·rw [if_pos hle] at hv
   obtain ⟨rfl, rfl⟩ : (n : Int) = v ∧ true = b := by simpa using hv
   have hz : ¬ ((n : Int) > 65535) := by omega
   have hz2 : ¬ ((65535 : Int) < n) := by omega
   clear hv
   go_enter Tryz.func87, Tryz.ntmps87
   go_wp2_with fail
   refine HL.out.mono ?_
   rintro e w1 ⟨rfl, rfl⟩
   go_wp2_with fail
   refine HA.out.mono ?_
   rintro e w2 ⟨rfl, hb⟩
   have HB := h_ hb; clear hb
   go_wp2_with fail
   go_ret2
   exact ⟨rfl, HB.out⟩
  ·rw [if_neg hle] at hv
   obtain ⟨rfl, rfl⟩ : 0 = v ∧ false = b := by simpa using hv
   have hz : ((n : Int) > 65535) := by omega
   have hz2 : ((65535 : Int) < n) := by omega
   clear hv
   go_enter Tryz.func87, Tryz.ntmps87
   go_wp2_with fail
   refine HL.out.mono ?_
   rintro e w1 ⟨rfl, rfl⟩
   go_wp2_with fail
   refine HA.out.mono ?_
   rintro e w2 ⟨rfl, hb⟩
   have HB := h_ hb; clear hb
   go_wp2_with fail
   go_ret2
   exact ⟨rfl, HB.out⟩
theorem keysnum_any (s : ByteArray) (w : World) (h63 : s.size ≤ 9223372036854775807) (b : Bool) (hv : (numK s.data.toList).2 = b) :
  Calls Tryz.prog 165 #[.string s] w fun e w' => e = .returned (.bool b) ∧ Below w.heap.size w w' := by
 obtain ⟨v, b', hvb⟩ : ∃ v b', numK s.data.toList = (v, b') := ⟨_, _, rfl⟩
 obtain rfl : b' = b := by rw [hvb] at hv; exact hv
 have H := h_ (keysNumber_any s w h63 v b' hvb)
 clear hvb hv
 go_enter Tryz.func165, Tryz.ntmps165
 go_wp2_with fail
 refine H.out.mono ?_
 rintro e w1 ⟨rfl, hb⟩
 have HB := h_ hb; clear hb
 go_wp2_with fail
 go_ret
 exact ⟨rfl, HB.out⟩
theorem enters_keysnum : ∀ args w, (callFunc 165 args).run Tryz.prog w = .ok (.enter 165 args) w := enters_of Tryz.func165 (by kernel_rfl) rfl
theorem idx2 (a b c : UInt8) : (0 ≤ Lib.indexByte [a, b] c) ↔ (c = a ∨ c = b) := by
 simp only [Lib.indexByte]
 by_cases h1 : a = c
 ·simp [h1]
 ·by_cases h2 : b = c
  ·subst h2; simp [h1]
  ·simp [h1, h2]
   exact ⟨fun e => h1 e.symm, fun e => h2 e.symm⟩
set_option maxHeartbeats 400000 in
theorem blank_any (c : UInt8) (w : World) :
  Calls Tryz.prog 211 #[.int .u8 c.toNat] w fun e w' => e = .returned (.bool (isBlank c)) ∧ w = w' := by
 go_enter Tryz.func211, Tryz.ntmps211
 go_wp2_with (go_at_call 149; refine (Tryz.strings_IndexByte _ _ _).mono ?_; rintro e w' ⟨rfl, rfl⟩)
 go_ret
 refine ⟨ret_bool ?_, rfl⟩
 rw [isBlank_iff, decide_eq_decide, idx2, ← UInt8.toNat_inj, ← UInt8.toNat_inj]
 simp
 omega
abbrev hexes : List UInt8 := [48, 49, 50, 51, 52, 53, 54, 55, 56, 57, 97, 98, 99, 100, 101, 102]
theorem hexIdx (c : UInt8) : Lib.indexByte hexes c = match hexOf c with | some n => (n : Int) | none => -1 := by
 have := u8_forall (p := fun c => decide (Lib.indexByte hexes c = match hexOf c with | some n => (n : Int) | none => -1)) (by decide +kernel) c
 exact of_decide_eq_true this
theorem hexOf_lt {c : UInt8} {n : Nat} (h : hexOf c = some n) : n < 16 := by
 have := u8_forall (p := fun c => match hexOf c with | some n => decide (n < 16) | none => true) (by decide +kernel) c
 rw [h] at this
 exact of_decide_eq_true this
theorem or16 (x y : Nat) (hx : x < 16) (hy : y < 16) : bits BinOp.or IntKind.i64 ((x : Int) * 16) y % 256 = ((UInt8.ofNat (16 * x + y)).toNat : Int) := by
 have h : (List.range 16).all (fun x => (List.range 16).all fun y => decide (bits BinOp.or IntKind.i64 ((x : Int) * 16) y % 256 = ((UInt8.ofNat (16 * x + y)).toNat : Int))) = true := by decide +kernel
 have h1 := List.all_eq_true.1 h x (List.mem_range.2 hx)
 have h2 := List.all_eq_true.1 h1 y (List.mem_range.2 hy)
 exact of_decide_eq_true h2
def twoV (l : List UInt8) : Value := match twoOf l with
 | some d => .tuple #[.int .u8 d.toNat, .bool true]
 | none => .tuple #[.int .u8 0, .bool false]
set_option maxHeartbeats 400000 in
theorem two_short (s : ByteArray) (w : World) (h : s.size < 2) :
  Calls Tryz.prog 103 #[.string s] w fun e w' => e = .returned (.tuple #[.int .u8 0, .bool false]) ∧ w = w' := by
 go_enter Tryz.func103, Tryz.ntmps103
 go_wp2
 go_ret2
 exact ⟨rfl, rfl⟩
set_option maxHeartbeats 400000 in
theorem two_long (s : ByteArray) (w : World) (h : 2 ≤ s.size) (h63 : s.size ≤ 9223372036854775807) :
  Calls Tryz.prog 103 #[.string s] w fun e w' => e = .returned (twoV [s[0], s[1]]) ∧ ∃ n, w' = w.drewN n := by
 have h0 : 0 < s.size := by omega
 have h1 : (1 : Int) < (s.size : Int) := by omega
 have e0 := hexIdx s[0]
 have e1 := hexIdx s[1]
 have l0 := @hexOf_lt s[0]
 have l1 := @hexOf_lt s[1]
 unfold twoV
 simp only [twoOf]
 cases hx : hexOf s[0] with
 | none =>
  rw [hx] at e0
  simp only at e0
  clear l0 l1 e1 hx
  go_enter Tryz.func103, Tryz.ntmps103
  go_wp2_with fail
  go_quiet ((go_at_call 149; exact Calls.quiet_of_same (Tryz.strings_IndexByte _ _ _)))
  go_wp2
  go_ret2
  exact ⟨rfl, _, rfl⟩
 | some x =>
  rw [hx] at e0
  simp only at e0
  have hx16 := l0 hx
  cases hy : hexOf s[1] with
  | none =>
   rw [hy] at e1
   simp only at e1
   clear l0 l1 hx hy
   go_enter Tryz.func103, Tryz.ntmps103
   go_wp2_with fail
   go_quiet ((go_at_call 149; exact Calls.quiet_of_same (Tryz.strings_IndexByte _ _ _)))
   go_wp2
   go_ret2
   exact ⟨rfl, _, rfl⟩
  | some y =>
   rw [hy] at e1
   simp only at e1
   have hy16 := l1 hy
   clear l0 l1 hx hy
   go_enter Tryz.func103, Tryz.ntmps103
   go_wp2_with fail
   go_quiet ((go_at_call 149; exact Calls.quiet_of_same (Tryz.strings_IndexByte _ _ _)))
   go_wp2
   go_ret2
   refine ⟨ret_val (by rw [← or16 x y hx16 hy16]; rfl), _, rfl⟩
theorem two_any (s : ByteArray) (w : World) (h63 : s.size ≤ 9223372036854775807) :
  Calls Tryz.prog 103 #[.string s] w fun e w' => e = .returned (twoV s.data.toList) ∧ ∃ n, w' = w.drewN n := by
 by_cases h : s.size < 2
 ·refine (two_short s w h).mono ?_
  rintro e w' ⟨rfl, rfl⟩
  refine ⟨?_, 0, rfl⟩
  obtain ⟨⟨d⟩⟩ := s
  match d, h with
  | [], _ => rfl
  | [a], _ => rfl
 ·refine (two_long s w (by omega) h63).mono ?_
  rintro e w' ⟨rfl, hw⟩
  refine ⟨?_, hw⟩
  obtain ⟨⟨d⟩⟩ := s
  match d, h with
  | a :: b :: r, _ => rfl
  | [], h => exact absurd (show 0 < 2 by decide) h
  | [a], h => exact absurd (show 1 < 2 by decide) h
theorem two_at (s : ByteArray) (w : World) (h63 : s.size ≤ 9223372036854775807) (l : List UInt8) (hl : s.data.toList = l) :
  Calls Tryz.prog 103 #[.string s] w fun e w' => e = .returned (.tuple #[.int .u8 ((twoOf l).getD 0).toNat, .bool (twoOf l).isSome]) ∧ ∃ n, w' = w.drewN n := by
 refine (two_any s w h63).mono ?_
 rintro e w' ⟨rfl, hw⟩
 refine ⟨?_, hw⟩
 rw [hl]; unfold twoV
 cases twoOf l <;> rfl
end Go.Proofs.YtdjkedcpehhmnaaGreatDoor

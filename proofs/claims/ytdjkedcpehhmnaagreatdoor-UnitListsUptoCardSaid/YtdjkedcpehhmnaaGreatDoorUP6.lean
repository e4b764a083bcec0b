import Derived.Shelf.Strings.Builder1
import Derived.Shelf.Small.Strs
import Derived.Shelf.Small.Wraps
import Derived.Shelf.Strconv.Atoi
import Derived.Shelf.Strconv.Itoa0
import Derived.Shelf.Strconv.AtoiErrFast
import Derived.Shelf.Strconv.ParseIntEmpty
import Derived.Shelf.Strconv.AtoiFail
import Derived.Shelf.LaysM
import Derived.Shelf.Strconv.Clone
import Derived.Shelf.Strconv.SyntaxError
import Derived.Shelf.LaysC
import Derived.Shelf.Strconv.ToError
import Derived.Shelf.Strconv.Lower
import Derived.Shelf.Strconv.ParseUint10
import Derived.Shelf.Strconv.ParseUint10Empty
import Derived.Shelf.Strconv.ParseUint10Any
import Derived.Shelf.Strconv.ParseInt10
import Derived.Shelf.Strconv.AtoiLong
import Derived.Shelf.Strconv.AtoiInnerAll
import Derived.Shelf.Strconv.RangeError
import Derived.Shelf.Strconv.ToErrorRange
import Derived.Shelf.Strconv.AtoiAll
import Derived.Shelf.Strconv.ErrVarAll
import Derived.Shelf.Strconv.ParseUintEmpty
import Derived.Shelf.Strconv.ParseUint10b64
import Derived.Shelf.Strconv.ParseUint10b32
import Derived.Shelf.Strconv.ParseUint10b16
import Derived.Shelf.Strconv.ParseUint10b8
import Derived.Shelf.Strconv.ParseUint10At
import Derived.Shelf.Strconv.ParseInt10At64
import Derived.Shelf.Strconv.ParseInt10At32
import Derived.Shelf.Strconv.ParseInt10At16
import Derived.Shelf.Strconv.ParseInt10At8
import Derived.Shelf.Strconv.ParseInt10All
import Derived.Shelf.Strings.Search1
import Derived.Shelf.Strings.Search2
import Derived.Shelf.Strings.Search3
import Derived.Shelf.Strings.Cut
import Derived.Shelf.Strings.Count
import Derived.Shelf.Strings.Shaped
import Derived.Shelf.Strings.LastIndex
import Derived.Shelf.Strings.LastIndexAll
import Derived.Shelf.Strings.Prefix
import Derived.Shelf.Strings.Split
import Derived.Shelf.Strings.SplitShaped
import Derived.Shelf.Unicode.DecodeSlow
import Derived.Shelf.Unicode.DecodeAny
import Derived.Shelf.Strings.FieldsFuncAny
import Derived.Shelf.Strings.FieldsFuncGrows
import Derived.Shelf.Slices.Turned
import Derived.Ground.SlgnProg
import Derived.Shelf.SlicesE.Equal
import Derived.Shelf.SlicesE.Clone
import Derived.Ground.PaProg
import Derived.Shelf.Path.Small
import Derived.Test.YtdjkedcpehhmnaaGreatDoorProg
import Derived.Shelf.SlGeneric
import Derived.Shelf.SlicesQ.IndexFunc
import Derived.Shelf.SlicesQ.Equal
import Derived.Ground.SlgfProg
import Derived.Ground.SlgqProg
import Derived.Lib.AppendZerosOnto
import Derived.Lib.SliceRun
import Derived.Test.YtdjkedcpehhmnaaGreatDoorUP5
namespace Go.Proofs
open Go.Shelf
def Tryz.findKey_ren : Go.Shelf.Ren := ⟨fun | 6 => 83 | n => n, fun | 22 => 38 | 23 => 41 | 25 => 116 | 3 => 3 | 0 => 0 | 4 => 4 | n => n, fun | n => n⟩
theorem Tryz.findKey : Go.Proofs.SlLaysH0.n6 Tryz.prog Tryz.findKey_ren := {
 mixed := by kernel_rfl
 f6 := ⟨Tryz.f83.name, by decide, Tryz.func83.trans (congrArg some (by kernel_rfl))⟩
 t0 := Tryz.underlying0
 a0 := Tryz.isAgg0
 z0 := Tryz.sizeOf0
 v0 := Tryz.zeroValue0
 t3 := Tryz.underlying3
 a3 := Tryz.isAgg3
 z3 := Tryz.sizeOf3
 v3 := Tryz.zeroValue3
 t4 := Tryz.underlying4
 a4 := Tryz.isAgg4
 z4 := Tryz.sizeOf4
 v4 := Tryz.zeroValue4
 t22 := Tryz.underlying38
 a22 := Tryz.isAgg38
 z22 := Tryz.sizeOf38
 v22 := Tryz.zeroValue38
 t25 := Tryz.underlying116
 a25 := Tryz.isAgg116
 z25 := Tryz.sizeOf116
 v25 := Tryz.zeroValue116 }
def Tryz.hasKey_ren : Go.Shelf.Ren := ⟨fun | 8 => 78 | 6 => 83 | n => n, fun | 22 => 38 | 23 => 41 | 25 => 116 | 4 => 4 | 3 => 3 | 0 => 0 | n => n, fun | n => n⟩
theorem Tryz.hasKey : Go.Proofs.SlLaysH0.n8 Tryz.prog Tryz.hasKey_ren := {
 mixed := by kernel_rfl
 f6 := ⟨Tryz.f83.name, by decide, Tryz.func83.trans (congrArg some (by kernel_rfl))⟩
 f8 := ⟨Tryz.f78.name, by decide, Tryz.func78.trans (congrArg some (by kernel_rfl))⟩
 t0 := Tryz.underlying0
 a0 := Tryz.isAgg0
 z0 := Tryz.sizeOf0
 v0 := Tryz.zeroValue0
 t3 := Tryz.underlying3
 a3 := Tryz.isAgg3
 z3 := Tryz.sizeOf3
 v3 := Tryz.zeroValue3
 t4 := Tryz.underlying4
 a4 := Tryz.isAgg4
 z4 := Tryz.sizeOf4
 v4 := Tryz.zeroValue4
 t22 := Tryz.underlying38
 a22 := Tryz.isAgg38
 z22 := Tryz.sizeOf38
 v22 := Tryz.zeroValue38
 t25 := Tryz.underlying116
 a25 := Tryz.isAgg116
 z25 := Tryz.sizeOf116
 v25 := Tryz.zeroValue116 }
def Tryz.findPair_ren : Go.Shelf.Ren := ⟨fun | 6 => 177 | n => n, fun | 22 => 27 | 23 => 58 | 25 => 168 | 3 => 3 | 0 => 0 | 4 => 4 | n => n, fun | n => n⟩
theorem Tryz.findPair : Go.Proofs.SlLaysH0.n6 Tryz.prog Tryz.findPair_ren := {
 mixed := by kernel_rfl
 f6 := ⟨Tryz.f177.name, by decide, Tryz.func177.trans (congrArg some (by kernel_rfl))⟩
 t0 := Tryz.underlying0
 a0 := Tryz.isAgg0
 z0 := Tryz.sizeOf0
 v0 := Tryz.zeroValue0
 t3 := Tryz.underlying3
 a3 := Tryz.isAgg3
 z3 := Tryz.sizeOf3
 v3 := Tryz.zeroValue3
 t4 := Tryz.underlying4
 a4 := Tryz.isAgg4
 z4 := Tryz.sizeOf4
 v4 := Tryz.zeroValue4
 t22 := Tryz.underlying27
 a22 := Tryz.isAgg27
 z22 := Tryz.sizeOf27
 v22 := Tryz.zeroValue27
 t25 := Tryz.underlying168
 a25 := Tryz.isAgg168
 z25 := Tryz.sizeOf168
 v25 := Tryz.zeroValue168 }
def Tryz.findRel_ren : Go.Shelf.Ren := ⟨fun | 6 => 182 | n => n, fun | 22 => 24 | 23 => 54 | 25 => 175 | 3 => 3 | 0 => 0 | 4 => 4 | n => n, fun | n => n⟩
theorem Tryz.findRel : Go.Proofs.SlLaysH0.n6 Tryz.prog Tryz.findRel_ren := {
 mixed := by kernel_rfl
 f6 := ⟨Tryz.f182.name, by decide, Tryz.func182.trans (congrArg some (by kernel_rfl))⟩
 t0 := Tryz.underlying0
 a0 := Tryz.isAgg0
 z0 := Tryz.sizeOf0
 v0 := Tryz.zeroValue0
 t3 := Tryz.underlying3
 a3 := Tryz.isAgg3
 z3 := Tryz.sizeOf3
 v3 := Tryz.zeroValue3
 t4 := Tryz.underlying4
 a4 := Tryz.isAgg4
 z4 := Tryz.sizeOf4
 v4 := Tryz.zeroValue4
 t22 := Tryz.underlying24
 a22 := Tryz.isAgg24
 z22 := Tryz.sizeOf24
 v22 := Tryz.zeroValue24
 t25 := Tryz.underlying175
 a25 := Tryz.isAgg175
 z25 := Tryz.sizeOf175
 v25 := Tryz.zeroValue175 }
def Tryz.lays137_ren : Go.Shelf.Ren := ⟨fun | 137 => 149 | 217 => 184 | 266 => 217 | n => n, fun | 9 => 9 | 5 => 5 | 3 => 3 | n => n, fun | n => n⟩
theorem Tryz.lays137 : Go.Proofs.Lays.n137 Tryz.prog Tryz.lays137_ren := {
 mixed := by kernel_rfl
 f137 := Tryz.func149.trans (congrArg some (by kernel_rfl))
 f217 := Tryz.func184.trans (congrArg some (by kernel_rfl))
 f266 := Tryz.func217.trans (congrArg some (by kernel_rfl))
 t3 := Tryz.underlying3
 a3 := Tryz.isAgg3
 z3 := Tryz.sizeOf3
 v3 := Tryz.zeroValue3
 t5 := Tryz.underlying5
 a5 := Tryz.isAgg5
 z5 := Tryz.sizeOf5
 v5 := Tryz.zeroValue5
 t9 := Tryz.underlying9
 a9 := Tryz.isAgg9
 z9 := Tryz.sizeOf9
 v9 := Tryz.zeroValue9 }
open Go.RowKit in
theorem Tryz.strings_IndexByte (s : ByteArray) (c : Int) (w : World) :
  Calls Tryz.prog 149 #[.string s, .int .u8 c] w fun e w' => e = .returned (.int .i64 (Lib.indexByte s.data.toList c.toNat.toUInt8)) ∧ w' = w := Any.strings_IndexByte Tryz.lays137 s c w
def Tryz.lays103_ren : Go.Shelf.Ren := ⟨fun | 103 => 131 | 210 => 171 | 206 => 148 | n => n, fun | 9 => 9 | 4 => 4 | 24 => 78 | 3 => 3 | n => n, fun | n => n⟩
theorem Tryz.lays103 : Go.Proofs.Lays.n103 Tryz.prog Tryz.lays103_ren := {
 mixed := by kernel_rfl
 f103 := Tryz.func131.trans (congrArg some (by kernel_rfl))
 f206 := Tryz.func148.trans (congrArg some (by kernel_rfl))
 f210 := Tryz.func171.trans (congrArg some (by kernel_rfl))
 t3 := Tryz.underlying3
 a3 := Tryz.isAgg3
 z3 := Tryz.sizeOf3
 v3 := Tryz.zeroValue3
 t4 := Tryz.underlying4
 a4 := Tryz.isAgg4
 z4 := Tryz.sizeOf4
 v4 := Tryz.zeroValue4
 t9 := Tryz.underlying9
 a9 := Tryz.isAgg9
 z9 := Tryz.sizeOf9
 v9 := Tryz.zeroValue9
 t24 := Tryz.underlying78
 a24 := Tryz.isAgg78
 z24 := Tryz.sizeOf78
 v24 := Tryz.zeroValue78 }
open Go.RowKit in
theorem Tryz.strings_CutPrefix (s p : ByteArray) (w : World) :
  Calls Tryz.prog 131 #[.string s, .string p] w fun e w' => e = .returned (.tuple #[.string ⟨(Lib.trimPrefix s.data.toList p.data.toList).toArray⟩, .bool (Lib.hasPrefix s.data.toList p.data.toList)]) ∧ w' = w := Any.strings_CutPrefix Tryz.lays103 s p w
def Tryz.lays172_ren : Go.Shelf.Ren := ⟨fun | 172 => 130 | 244 => 169 | 245 => 170 | 247 => 206 | 279 => 207 | 280 => 208 | 281 => 209 | 282 => 210 | 287 => 236 | 316 => 237 | 171 => 239 | 205 => 238 | 321 => 251 | 322 => 252 | 243 => 253 | 246 => 261 | 283 => 263 | 284 => 264 | 285 => 265 | 286 => 266 | 129 => 268 | 317 => 267 | 318 => 269 | 319 => 270 | 320 => 271 | 337 => 272 | 338 => 273 | n => n, fun | 9 => 9 | 3 => 3 | 75 => 76 | 76 => 80 | 4 => 4 | 5 => 5 | 167 => 216 | 37 => 72 | 0 => 0 | 85 => 217 | 2 => 2 | 168 => 219 | 53 => 245 | 175 => 246 | 46 => 44 | 210 => 249 | 127 => 102 | 145 => 262 | 143 => 260 | 21 => 21 | 171 => 267 | 173 => 270 | 212 => 277 | 51 => 204 | 20 => 20 | 213 => 278 | 232 => 282 | 233 => 283 | 80 => 82 | n => n, fun | 15 => 1 | 16 => 2 | 17 => 5 | 18 => 6 | 19 => 7 | n => n⟩
theorem Tryz.lays172 : Go.Proofs.Lays.n172 Tryz.prog Tryz.lays172_ren := {
 mixed := by kernel_rfl
 f129 := Tryz.func268.trans (congrArg some (by kernel_rfl))
 f171 := Tryz.func239.trans (congrArg some (by kernel_rfl))
 f172 := Tryz.func130.trans (congrArg some (by kernel_rfl))
 f205 := Tryz.func238.trans (congrArg some (by kernel_rfl))
 f243 := Tryz.func253.trans (congrArg some (by kernel_rfl))
 f244 := Tryz.func169.trans (congrArg some (by kernel_rfl))
 f245 := Tryz.func170.trans (congrArg some (by kernel_rfl))
 f246 := Tryz.func261.trans (congrArg some (by kernel_rfl))
 f247 := Tryz.func206.trans (congrArg some (by kernel_rfl))
 f279 := Tryz.func207.trans (congrArg some (by kernel_rfl))
 f280 := Tryz.func208.trans (congrArg some (by kernel_rfl))
 f281 := Tryz.func209.trans (congrArg some (by kernel_rfl))
 f282 := Tryz.func210.trans (congrArg some (by kernel_rfl))
 f283 := Tryz.func263.trans (congrArg some (by kernel_rfl))
 f284 := Tryz.func264.trans (congrArg some (by kernel_rfl))
 f285 := Tryz.func265.trans (congrArg some (by kernel_rfl))
 f286 := Tryz.func266.trans (congrArg some (by kernel_rfl))
 f287 := Tryz.func236.trans (congrArg some (by kernel_rfl))
 f316 := Tryz.func237.trans (congrArg some (by kernel_rfl))
 f317 := Tryz.func267.trans (congrArg some (by kernel_rfl))
 f318 := Tryz.func269.trans (congrArg some (by kernel_rfl))
 f319 := Tryz.func270.trans (congrArg some (by kernel_rfl))
 f320 := Tryz.func271.trans (congrArg some (by kernel_rfl))
 f321 := Tryz.func251.trans (congrArg some (by kernel_rfl))
 f322 := Tryz.func252.trans (congrArg some (by kernel_rfl))
 f337 := Tryz.func272.trans (congrArg some (by kernel_rfl))
 f338 := Tryz.func273.trans (congrArg some (by kernel_rfl))
 t0 := Tryz.underlying0
 a0 := Tryz.isAgg0
 z0 := Tryz.sizeOf0
 v0 := Tryz.zeroValue0
 t2 := Tryz.underlying2
 a2 := Tryz.isAgg2
 z2 := Tryz.sizeOf2
 v2 := Tryz.zeroValue2
 t3 := Tryz.underlying3
 a3 := Tryz.isAgg3
 z3 := Tryz.sizeOf3
 v3 := Tryz.zeroValue3
 t4 := Tryz.underlying4
 a4 := Tryz.isAgg4
 z4 := Tryz.sizeOf4
 v4 := Tryz.zeroValue4
 t5 := Tryz.underlying5
 a5 := Tryz.isAgg5
 z5 := Tryz.sizeOf5
 v5 := Tryz.zeroValue5
 t9 := Tryz.underlying9
 a9 := Tryz.isAgg9
 z9 := Tryz.sizeOf9
 v9 := Tryz.zeroValue9
 t20 := Tryz.underlying20
 a20 := Tryz.isAgg20
 z20 := Tryz.sizeOf20
 v20 := Tryz.zeroValue20
 t21 := Tryz.underlying21
 a21 := Tryz.isAgg21
 z21 := Tryz.sizeOf21
 v21 := Tryz.zeroValue21
 t37 := Tryz.underlying72
 a37 := Tryz.isAgg72
 z37 := Tryz.sizeOf72
 v37 := Tryz.zeroValue72
 t46 := Tryz.underlying44
 a46 := Tryz.isAgg44
 z46 := Tryz.sizeOf44
 v46 := Tryz.zeroValue44
 t51 := Tryz.underlying204
 a51 := Tryz.isAgg204
 z51 := Tryz.sizeOf204
 v51 := Tryz.zeroValue204
 t53 := Tryz.underlying245
 a53 := Tryz.isAgg245
 z53 := Tryz.sizeOf245
 v53 := Tryz.zeroValue245
 t75 := Tryz.underlying76
 a75 := Tryz.isAgg76
 z75 := Tryz.sizeOf76
 v75 := Tryz.zeroValue76
 t76 := Tryz.underlying80
 a76 := Tryz.isAgg80
 z76 := Tryz.sizeOf80
 v76 := Tryz.zeroValue80
 t85 := Tryz.underlying217
 a85 := Tryz.isAgg217
 z85 := Tryz.sizeOf217
 v85 := Tryz.zeroValue217
 t127 := Tryz.underlying102
 a127 := Tryz.isAgg102
 z127 := Tryz.sizeOf102
 v127 := Tryz.zeroValue102
 t143 := Tryz.underlying260
 a143 := Tryz.isAgg260
 z143 := Tryz.sizeOf260
 v143 := Tryz.zeroValue260
 t145 := Tryz.underlying262
 a145 := Tryz.isAgg262
 z145 := Tryz.sizeOf262
 v145 := Tryz.zeroValue262
 t167 := Tryz.underlying216
 a167 := Tryz.isAgg216
 z167 := Tryz.sizeOf216
 v167 := Tryz.zeroValue216
 t168 := Tryz.underlying219
 a168 := Tryz.isAgg219
 z168 := Tryz.sizeOf219
 v168 := Tryz.zeroValue219
 t171 := Tryz.underlying267
 a171 := Tryz.isAgg267
 z171 := Tryz.sizeOf267
 v171 := Tryz.zeroValue267
 t173 := Tryz.underlying270
 a173 := Tryz.isAgg270
 z173 := Tryz.sizeOf270
 v173 := Tryz.zeroValue270
 t175 := Tryz.underlying246
 a175 := Tryz.isAgg246
 z175 := Tryz.sizeOf246
 v175 := Tryz.zeroValue246
 t210 := Tryz.underlying249
 a210 := Tryz.isAgg249
 z210 := Tryz.sizeOf249
 v210 := Tryz.zeroValue249
 t212 := Tryz.underlying277
 a212 := Tryz.isAgg277
 z212 := Tryz.sizeOf277
 v212 := Tryz.zeroValue277
 t213 := Tryz.underlying278
 a213 := Tryz.isAgg278
 z213 := Tryz.sizeOf278
 t232 := Tryz.underlying282
 a232 := Tryz.isAgg282
 z232 := Tryz.sizeOf282
 v232 := Tryz.zeroValue282
 t233 := Tryz.underlying283
 a233 := Tryz.isAgg283
 z233 := Tryz.sizeOf283
 v233 := Tryz.zeroValue283
 g15 := by kernel_rfl
 g16 := by kernel_rfl
 g17 := by kernel_rfl
 g18 := by kernel_rfl
 g19 := by kernel_rfl }
open Go.RowKit in
theorem Tryz.strconv_Atoi (s : ByteArray) (n : Int) (hl : s.size ≤ 18) (h : Lib.atoi s.data.toList = some n) (w : World) :
  Calls Tryz.prog 130 #[.string s] w fun e w' => e = .returned (.tuple #[.int .i64 n, .nilIface]) ∧ ∃ t, w' = Lib.bytesWorld w 5 t := Any.strconv_Atoi Tryz.lays172 s n hl h w
def Tryz.lays143_ren : Go.Shelf.Ren := ⟨fun | 143 => 228 | 219 => 159 | 217 => 184 | 225 => 190 | 224 => 191 | 267 => 192 | 266 => 217 | 314 => 223 | n => n, fun | 9 => 9 | 3 => 3 | 4 => 4 | 5 => 5 | 46 => 44 | 146 => 205 | 51 => 204 | n => n, fun | 1 => 0 | n => n⟩
theorem Tryz.lays143 : Go.Proofs.Lays.n143 Tryz.prog Tryz.lays143_ren := {
 mixed := by kernel_rfl
 f143 := Tryz.func228.trans (congrArg some (by kernel_rfl))
 f217 := Tryz.func184.trans (congrArg some (by kernel_rfl))
 f219 := Tryz.func159.trans (congrArg some (by kernel_rfl))
 f224 := Tryz.func191.trans (congrArg some (by kernel_rfl))
 f225 := Tryz.func190.trans (congrArg some (by kernel_rfl))
 f266 := Tryz.func217.trans (congrArg some (by kernel_rfl))
 f267 := Tryz.func192.trans (congrArg some (by kernel_rfl))
 f314 := Tryz.func223.trans (congrArg some (by kernel_rfl))
 t3 := Tryz.underlying3
 a3 := Tryz.isAgg3
 z3 := Tryz.sizeOf3
 v3 := Tryz.zeroValue3
 t4 := Tryz.underlying4
 a4 := Tryz.isAgg4
 z4 := Tryz.sizeOf4
 v4 := Tryz.zeroValue4
 t5 := Tryz.underlying5
 a5 := Tryz.isAgg5
 z5 := Tryz.sizeOf5
 v5 := Tryz.zeroValue5
 t9 := Tryz.underlying9
 a9 := Tryz.isAgg9
 z9 := Tryz.sizeOf9
 v9 := Tryz.zeroValue9
 t46 := Tryz.underlying44
 a46 := Tryz.isAgg44
 z46 := Tryz.sizeOf44
 v46 := Tryz.zeroValue44
 t51 := Tryz.underlying204
 a51 := Tryz.isAgg204
 z51 := Tryz.sizeOf204
 v51 := Tryz.zeroValue204
 t146 := Tryz.underlying205
 a146 := Tryz.isAgg205
 z146 := Tryz.sizeOf205
 v146 := Tryz.zeroValue205
 g1 := by kernel_rfl }
open Go.RowKit Go.Lib in
theorem Tryz.strings_Index_one (s : ByteArray) (c : UInt8) (w : World) :
  Calls Tryz.prog 228 #[.string s, .string ⟨#[c]⟩] w fun e w' => e = .returned (.int .i64 (Lib.indexByte s.data.toList c)) ∧ w' = w := Any.strings_Index_one Tryz.lays143 s c w
def Tryz.lays144_ren : Go.Shelf.Ren := ⟨fun | 144 => 201 | 143 => 228 | 219 => 159 | 217 => 184 | 225 => 190 | 224 => 191 | 267 => 192 | 266 => 217 | 314 => 223 | n => n, fun | 9 => 9 | 4 => 4 | 3 => 3 | 5 => 5 | 46 => 44 | 146 => 205 | 51 => 204 | n => n, fun | 1 => 0 | n => n⟩
theorem Tryz.lays144 : Go.Proofs.Lays.n144 Tryz.prog Tryz.lays144_ren := {
 mixed := by kernel_rfl
 f143 := Tryz.func228.trans (congrArg some (by kernel_rfl))
 f144 := Tryz.func201.trans (congrArg some (by kernel_rfl))
 f217 := Tryz.func184.trans (congrArg some (by kernel_rfl))
 f219 := Tryz.func159.trans (congrArg some (by kernel_rfl))
 f224 := Tryz.func191.trans (congrArg some (by kernel_rfl))
 f225 := Tryz.func190.trans (congrArg some (by kernel_rfl))
 f266 := Tryz.func217.trans (congrArg some (by kernel_rfl))
 f267 := Tryz.func192.trans (congrArg some (by kernel_rfl))
 f314 := Tryz.func223.trans (congrArg some (by kernel_rfl))
 t3 := Tryz.underlying3
 a3 := Tryz.isAgg3
 z3 := Tryz.sizeOf3
 v3 := Tryz.zeroValue3
 t4 := Tryz.underlying4
 a4 := Tryz.isAgg4
 z4 := Tryz.sizeOf4
 v4 := Tryz.zeroValue4
 t5 := Tryz.underlying5
 a5 := Tryz.isAgg5
 z5 := Tryz.sizeOf5
 v5 := Tryz.zeroValue5
 t9 := Tryz.underlying9
 a9 := Tryz.isAgg9
 z9 := Tryz.sizeOf9
 v9 := Tryz.zeroValue9
 t46 := Tryz.underlying44
 a46 := Tryz.isAgg44
 z46 := Tryz.sizeOf44
 v46 := Tryz.zeroValue44
 t51 := Tryz.underlying204
 a51 := Tryz.isAgg204
 z51 := Tryz.sizeOf204
 v51 := Tryz.zeroValue204
 t146 := Tryz.underlying205
 a146 := Tryz.isAgg205
 z146 := Tryz.sizeOf205
 v146 := Tryz.zeroValue205
 g1 := by kernel_rfl }
open Go.RowKit Go.Lib in
theorem Tryz.strings_Contains_one (s : ByteArray) (c : UInt8) (w : World) :
  Calls Tryz.prog 201 #[.string s, .string ⟨#[c]⟩] w fun e w' => e = .returned (.bool (decide (0 ≤ Lib.indexByte s.data.toList c))) ∧ w' = w := Any.strings_Contains_one Tryz.lays144 s c w
def Tryz.lays145_ren : Go.Shelf.Ren := ⟨fun | 145 => 70 | 220 => 118 | 219 => 159 | 217 => 184 | 225 => 190 | 224 => 191 | 267 => 192 | 266 => 217 | 314 => 223 | n => n, fun | 9 => 9 | 4 => 4 | 59 => 90 | 3 => 3 | 5 => 5 | 46 => 44 | 146 => 205 | 51 => 204 | n => n, fun | 1 => 0 | n => n⟩
theorem Tryz.lays145 : Go.Proofs.Lays.n145 Tryz.prog Tryz.lays145_ren := {
 mixed := by kernel_rfl
 f145 := Tryz.func70.trans (congrArg some (by kernel_rfl))
 f217 := Tryz.func184.trans (congrArg some (by kernel_rfl))
 f219 := Tryz.func159.trans (congrArg some (by kernel_rfl))
 f220 := Tryz.func118.trans (congrArg some (by kernel_rfl))
 f224 := Tryz.func191.trans (congrArg some (by kernel_rfl))
 f225 := Tryz.func190.trans (congrArg some (by kernel_rfl))
 f266 := Tryz.func217.trans (congrArg some (by kernel_rfl))
 f267 := Tryz.func192.trans (congrArg some (by kernel_rfl))
 f314 := Tryz.func223.trans (congrArg some (by kernel_rfl))
 t3 := Tryz.underlying3
 a3 := Tryz.isAgg3
 z3 := Tryz.sizeOf3
 v3 := Tryz.zeroValue3
 t4 := Tryz.underlying4
 a4 := Tryz.isAgg4
 z4 := Tryz.sizeOf4
 v4 := Tryz.zeroValue4
 t5 := Tryz.underlying5
 a5 := Tryz.isAgg5
 z5 := Tryz.sizeOf5
 v5 := Tryz.zeroValue5
 t9 := Tryz.underlying9
 a9 := Tryz.isAgg9
 z9 := Tryz.sizeOf9
 v9 := Tryz.zeroValue9
 t46 := Tryz.underlying44
 a46 := Tryz.isAgg44
 z46 := Tryz.sizeOf44
 v46 := Tryz.zeroValue44
 t51 := Tryz.underlying204
 a51 := Tryz.isAgg204
 z51 := Tryz.sizeOf204
 v51 := Tryz.zeroValue204
 t59 := Tryz.underlying90
 a59 := Tryz.isAgg90
 z59 := Tryz.sizeOf90
 v59 := Tryz.zeroValue90
 t146 := Tryz.underlying205
 a146 := Tryz.isAgg205
 z146 := Tryz.sizeOf205
 v146 := Tryz.zeroValue205
 g1 := by kernel_rfl }
open Go.RowKit Go.Lib in
theorem Tryz.strings_Cut (s sep : ByteArray) (m : Int) (w : World) (hs : s.size < 4294967281) (hm : w.cell? ⟨0, 0, none⟩ = some (.int .i64 m)) :
  Calls Tryz.prog 70 #[.string s, .string sep] w fun e w' => e = .returned (.tuple #[.string ⟨(Lib.cut s.data.toList sep.data.toList).1.toArray⟩, .string ⟨(Lib.cut s.data.toList sep.data.toList).2.1.toArray⟩, .bool (Lib.cut s.data.toList sep.data.toList).2.2]) ∧ ∃ n, w' = w.drewN n := Any.strings_Cut Tryz.lays145 s sep m w hs hm
def Tryz.lays138_ren : Go.Shelf.Ren := ⟨fun | 138 => 203 | 195 => 229 | 218 => 230 | 143 => 228 | 219 => 159 | 217 => 184 | 225 => 190 | 224 => 191 | 267 => 192 | 266 => 217 | 314 => 223 | n => n, fun | 9 => 9 | 3 => 3 | 4 => 4 | 5 => 5 | 0 => 0 | 46 => 44 | 146 => 205 | 51 => 204 | n => n, fun | 1 => 0 | n => n⟩
theorem Tryz.lays138 : Go.Proofs.Lays.n138 Tryz.prog Tryz.lays138_ren := {
 mixed := by kernel_rfl
 f138 := Tryz.func203.trans (congrArg some (by kernel_rfl))
 f143 := Tryz.func228.trans (congrArg some (by kernel_rfl))
 f195 := Tryz.func229.trans (congrArg some (by kernel_rfl))
 f217 := Tryz.func184.trans (congrArg some (by kernel_rfl))
 f218 := Tryz.func230.trans (congrArg some (by kernel_rfl))
 f219 := Tryz.func159.trans (congrArg some (by kernel_rfl))
 f224 := Tryz.func191.trans (congrArg some (by kernel_rfl))
 f225 := Tryz.func190.trans (congrArg some (by kernel_rfl))
 f266 := Tryz.func217.trans (congrArg some (by kernel_rfl))
 f267 := Tryz.func192.trans (congrArg some (by kernel_rfl))
 f314 := Tryz.func223.trans (congrArg some (by kernel_rfl))
 t0 := Tryz.underlying0
 a0 := Tryz.isAgg0
 z0 := Tryz.sizeOf0
 v0 := Tryz.zeroValue0
 t3 := Tryz.underlying3
 a3 := Tryz.isAgg3
 z3 := Tryz.sizeOf3
 v3 := Tryz.zeroValue3
 t4 := Tryz.underlying4
 a4 := Tryz.isAgg4
 z4 := Tryz.sizeOf4
 v4 := Tryz.zeroValue4
 t5 := Tryz.underlying5
 a5 := Tryz.isAgg5
 z5 := Tryz.sizeOf5
 v5 := Tryz.zeroValue5
 t9 := Tryz.underlying9
 a9 := Tryz.isAgg9
 z9 := Tryz.sizeOf9
 v9 := Tryz.zeroValue9
 t46 := Tryz.underlying44
 a46 := Tryz.isAgg44
 z46 := Tryz.sizeOf44
 v46 := Tryz.zeroValue44
 t51 := Tryz.underlying204
 a51 := Tryz.isAgg204
 z51 := Tryz.sizeOf204
 v51 := Tryz.zeroValue204
 t146 := Tryz.underlying205
 a146 := Tryz.isAgg205
 z146 := Tryz.sizeOf205
 v146 := Tryz.zeroValue205
 g1 := by kernel_rfl }
open Go.RowKit Go.Lib in
theorem Tryz.strings_Count_one (s : ByteArray) (c : UInt8) (w : World) :
  Calls Tryz.prog 203 #[.string s, .string ⟨#[c]⟩] w fun e w' => e = .returned (.int .i64 (Lib.countByte s.data.toList c)) ∧ w' = w := Any.strings_Count_one Tryz.lays138 s c w
def Tryz.lays148_ren : Go.Shelf.Ren := ⟨fun | 148 => 117 | 222 => 157 | 223 => 158 | 269 => 189 | n => n, fun | 9 => 9 | 3 => 3 | 4 => 4 | 5 => 5 | 146 => 205 | 51 => 204 | 46 => 44 | n => n, fun | n => n⟩
theorem Tryz.lays148 : Go.Proofs.Lays.n148 Tryz.prog Tryz.lays148_ren := {
 mixed := by kernel_rfl
 f148 := Tryz.func117.trans (congrArg some (by kernel_rfl))
 f222 := Tryz.func157.trans (congrArg some (by kernel_rfl))
 f223 := Tryz.func158.trans (congrArg some (by kernel_rfl))
 f269 := Tryz.func189.trans (congrArg some (by kernel_rfl))
 t3 := Tryz.underlying3
 a3 := Tryz.isAgg3
 z3 := Tryz.sizeOf3
 v3 := Tryz.zeroValue3
 t4 := Tryz.underlying4
 a4 := Tryz.isAgg4
 z4 := Tryz.sizeOf4
 v4 := Tryz.zeroValue4
 t5 := Tryz.underlying5
 a5 := Tryz.isAgg5
 z5 := Tryz.sizeOf5
 v5 := Tryz.zeroValue5
 t9 := Tryz.underlying9
 a9 := Tryz.isAgg9
 z9 := Tryz.sizeOf9
 v9 := Tryz.zeroValue9
 t46 := Tryz.underlying44
 a46 := Tryz.isAgg44
 z46 := Tryz.sizeOf44
 v46 := Tryz.zeroValue44
 t51 := Tryz.underlying204
 a51 := Tryz.isAgg204
 z51 := Tryz.sizeOf204
 v51 := Tryz.zeroValue204
 t146 := Tryz.underlying205
 a146 := Tryz.isAgg205
 z146 := Tryz.sizeOf205
 v146 := Tryz.zeroValue205 }
open Go.RowKit Go.Lib in
theorem Tryz.strings_LastIndex_one (s sub : ByteArray) (h1 : sub.size = 1) (hs : s.size < 4611686018427387904) (w : World) :
  Calls Tryz.prog 117 #[.string s, .string sub] w fun e w' => e = .returned (.int .i64 (Lib.lastIndexByte s ((sub[0]'(by omega)).toNat : Int))) ∧ w' = w := Any.strings_LastIndex_one Tryz.lays148 s sub h1 hs w
def Tryz.lays99_ren : Go.Shelf.Ren := ⟨fun | 99 => 102 | 206 => 148 | n => n, fun | 9 => 9 | 4 => 4 | 3 => 3 | n => n, fun | n => n⟩
theorem Tryz.lays99 : Go.Proofs.Lays.n99 Tryz.prog Tryz.lays99_ren := {
 mixed := by kernel_rfl
 f99 := Tryz.func102.trans (congrArg some (by kernel_rfl))
 f206 := Tryz.func148.trans (congrArg some (by kernel_rfl))
 t3 := Tryz.underlying3
 a3 := Tryz.isAgg3
 z3 := Tryz.sizeOf3
 v3 := Tryz.zeroValue3
 t4 := Tryz.underlying4
 a4 := Tryz.isAgg4
 z4 := Tryz.sizeOf4
 v4 := Tryz.zeroValue4
 t9 := Tryz.underlying9
 a9 := Tryz.isAgg9
 z9 := Tryz.sizeOf9
 v9 := Tryz.zeroValue9 }
open Go.RowKit Go.Lib in
theorem Tryz.strings_HasPrefix (s p : ByteArray) (w : World) :
  Calls Tryz.prog 102 #[.string s, .string p] w fun e w' => e = .returned (.bool (Lib.hasPrefix s.data.toList p.data.toList)) ∧ w' = w := Any.strings_HasPrefix Tryz.lays99 s p w
def Tryz.lays102_ren : Go.Shelf.Ren := ⟨fun | 102 => 58 | 209 => 100 | 207 => 147 | n => n, fun | 9 => 9 | 4 => 4 | 3 => 3 | n => n, fun | n => n⟩
theorem Tryz.lays102 : Go.Proofs.Lays.n102 Tryz.prog Tryz.lays102_ren := {
 mixed := by kernel_rfl
 f102 := Tryz.func58.trans (congrArg some (by kernel_rfl))
 f207 := Tryz.func147.trans (congrArg some (by kernel_rfl))
 f209 := Tryz.func100.trans (congrArg some (by kernel_rfl))
 t3 := Tryz.underlying3
 a3 := Tryz.isAgg3
 z3 := Tryz.sizeOf3
 v3 := Tryz.zeroValue3
 t4 := Tryz.underlying4
 a4 := Tryz.isAgg4
 z4 := Tryz.sizeOf4
 v4 := Tryz.zeroValue4
 t9 := Tryz.underlying9
 a9 := Tryz.isAgg9
 z9 := Tryz.sizeOf9
 v9 := Tryz.zeroValue9 }
open Go.RowKit Go.Lib in
theorem Tryz.strings_TrimSuffix (s p : ByteArray) (w : World) (hs : s.size ≤ 9223372036854775807) :
  Calls Tryz.prog 58 #[.string s, .string p] w fun e w' => e = .returned (.string ⟨(Lib.trimSuffix s.data.toList p.data.toList).toArray⟩) ∧ w' = w := Any.strings_TrimSuffix Tryz.lays102 s p w hs
def Tryz.lays146_ren : Go.Shelf.Ren := ⟨fun | 146 => 195 | 221 => 225 | 268 => 246 | 138 => 203 | 143 => 228 | 195 => 229 | 197 => 258 | 218 => 230 | 219 => 159 | 260 => 262 | 217 => 184 | 225 => 190 | 224 => 191 | 267 => 192 | 266 => 217 | 314 => 223 | n => n, fun | 9 => 9 | 31 => 28 | 3 => 3 | 4 => 4 | 0 => 0 | 105 => 264 | 21 => 21 | 5 => 5 | 46 => 44 | 119 => 272 | 139 => 275 | 138 => 274 | 146 => 205 | 51 => 204 | n => n, fun | 1 => 0 | 3 => 3 | 4 => 4 | n => n⟩
theorem Tryz.lays146 : Go.Proofs.Lays.n146 Tryz.prog Tryz.lays146_ren := {
 mixed := by kernel_rfl
 f138 := Tryz.func203.trans (congrArg some (by kernel_rfl))
 f143 := Tryz.func228.trans (congrArg some (by kernel_rfl))
 f146 := Tryz.func195.trans (congrArg some (by kernel_rfl))
 f195 := Tryz.func229.trans (congrArg some (by kernel_rfl))
 f197 := Tryz.func258.trans (congrArg some (by kernel_rfl))
 f217 := Tryz.func184.trans (congrArg some (by kernel_rfl))
 f218 := Tryz.func230.trans (congrArg some (by kernel_rfl))
 f219 := Tryz.func159.trans (congrArg some (by kernel_rfl))
 f221 := Tryz.func225.trans (congrArg some (by kernel_rfl))
 f224 := Tryz.func191.trans (congrArg some (by kernel_rfl))
 f225 := Tryz.func190.trans (congrArg some (by kernel_rfl))
 f260 := Tryz.func262.trans (congrArg some (by kernel_rfl))
 f266 := Tryz.func217.trans (congrArg some (by kernel_rfl))
 f267 := Tryz.func192.trans (congrArg some (by kernel_rfl))
 f268 := Tryz.func246.trans (congrArg some (by kernel_rfl))
 f314 := Tryz.func223.trans (congrArg some (by kernel_rfl))
 t0 := Tryz.underlying0
 a0 := Tryz.isAgg0
 z0 := Tryz.sizeOf0
 v0 := Tryz.zeroValue0
 t3 := Tryz.underlying3
 a3 := Tryz.isAgg3
 z3 := Tryz.sizeOf3
 v3 := Tryz.zeroValue3
 t4 := Tryz.underlying4
 a4 := Tryz.isAgg4
 z4 := Tryz.sizeOf4
 v4 := Tryz.zeroValue4
 t5 := Tryz.underlying5
 a5 := Tryz.isAgg5
 z5 := Tryz.sizeOf5
 v5 := Tryz.zeroValue5
 t9 := Tryz.underlying9
 a9 := Tryz.isAgg9
 z9 := Tryz.sizeOf9
 v9 := Tryz.zeroValue9
 t21 := Tryz.underlying21
 a21 := Tryz.isAgg21
 z21 := Tryz.sizeOf21
 v21 := Tryz.zeroValue21
 t31 := Tryz.underlying28
 a31 := Tryz.isAgg28
 z31 := Tryz.sizeOf28
 v31 := Tryz.zeroValue28
 t46 := Tryz.underlying44
 a46 := Tryz.isAgg44
 z46 := Tryz.sizeOf44
 v46 := Tryz.zeroValue44
 t51 := Tryz.underlying204
 a51 := Tryz.isAgg204
 z51 := Tryz.sizeOf204
 v51 := Tryz.zeroValue204
 t105 := Tryz.underlying264
 a105 := Tryz.isAgg264
 z105 := Tryz.sizeOf264
 v105 := Tryz.zeroValue264
 t119 := Tryz.underlying272
 a119 := Tryz.isAgg272
 z119 := Tryz.sizeOf272
 t138 := Tryz.underlying274
 a138 := Tryz.isAgg274
 z138 := Tryz.sizeOf274
 v138 := Tryz.zeroValue274
 t139 := Tryz.underlying275
 a139 := Tryz.isAgg275
 z139 := Tryz.sizeOf275
 v139 := Tryz.zeroValue275
 t146 := Tryz.underlying205
 a146 := Tryz.isAgg205
 z146 := Tryz.sizeOf205
 v146 := Tryz.zeroValue205
 g1 := by kernel_rfl
 g3 := by kernel_rfl
 g4 := by kernel_rfl }
open Go.RowKit Go.Lib in
theorem Tryz.strings_Split (s sep : ByteArray) (m : Int) (w : World) (hs : s.size < 4294967281) (hm : w.cell? ⟨0, 0, none⟩ = some (.int .i64 m)) (h1 : 1 ≤ sep.size) :
  Calls Tryz.prog 195 #[.string s, .string sep] w fun e w' =>
   e = .returned (.slice (some ⟨w.heap.size, 0, none⟩) (Lib.countB s sep + 1) (Lib.countB s sep + 1)) ∧ w' = w.alloc (.cells ((Lib.splitB sep 0 (Lib.countB s sep) s).map Value.string).toArray 9) := Any.strings_Split Tryz.lays146 (by kernel_rfl) s sep m w hs hm h1
def Tryz.lays229_ren : Go.Shelf.Ren := ⟨fun | 229 => 178 | n => n, fun | 9 => 9 | 40 => 197 | 31 => 28 | 152 => 223 | 3 => 3 | 0 => 0 | 4 => 4 | 21 => 21 | 154 => 225 | n => n, fun | n => n⟩
theorem Tryz.lays229 : Go.Proofs.Lays.n229 Tryz.prog Tryz.lays229_ren := {
 mixed := by kernel_rfl
 f229 := Tryz.func178.trans (congrArg some (by kernel_rfl))
 t0 := Tryz.underlying0
 a0 := Tryz.isAgg0
 z0 := Tryz.sizeOf0
 v0 := Tryz.zeroValue0
 t3 := Tryz.underlying3
 a3 := Tryz.isAgg3
 z3 := Tryz.sizeOf3
 v3 := Tryz.zeroValue3
 t4 := Tryz.underlying4
 a4 := Tryz.isAgg4
 z4 := Tryz.sizeOf4
 v4 := Tryz.zeroValue4
 t9 := Tryz.underlying9
 a9 := Tryz.isAgg9
 z9 := Tryz.sizeOf9
 v9 := Tryz.zeroValue9
 t21 := Tryz.underlying21
 a21 := Tryz.isAgg21
 z21 := Tryz.sizeOf21
 v21 := Tryz.zeroValue21
 t31 := Tryz.underlying28
 a31 := Tryz.isAgg28
 z31 := Tryz.sizeOf28
 v31 := Tryz.zeroValue28
 t40 := Tryz.underlying197
 a40 := Tryz.isAgg197
 z40 := Tryz.sizeOf197
 v40 := Tryz.zeroValue197
 t152 := Tryz.underlying223
 a152 := Tryz.isAgg223
 z152 := Tryz.sizeOf223
 v152 := Tryz.zeroValue223
 t154 := Tryz.underlying225
 a154 := Tryz.isAgg225
 z154 := Tryz.sizeOf225
 v154 := Tryz.zeroValue225 }
open Go.RowKit Go.Lib in
theorem Tryz.strings_FieldsFunc (g : Nat) (lb : Array Value) (eg : ∀ args w, (callFunc g args).run Tryz.prog w = .ok (.enter g args) w) (p : Nat → Bool) (s : ByteArray) (w : World) (hs : s.size ≤ 4294967296) (hp : PredAt Tryz.prog g lb encR p w) :
  Calls Tryz.prog 178 #[.string s, .func (.func g) #[] lb] w fun e w' => ∃ A, e = .returned (.slice (some ⟨A, 0, none⟩) (Lib.goFieldsP p s).length (Lib.goFieldsP p s).length) ∧ w.heap.size ≤ A ∧
   w'.ownsRow w.heap.size 9 1 (.slice (some ⟨A, 0, none⟩) (Lib.goFieldsP p s).length (Lib.goFieldsP p s).length) (Lib.goFieldsP p s).length ((Lib.goFieldsP p s).map Value.string) ∧ Below w.heap.size w w' := Any.strings_FieldsFunc Tryz.lays229 g lb eg p s w hs hp (by kernel_rfl) (by kernel_rfl)
def Tryz.lays107_ren : Go.Shelf.Ren := ⟨fun | 107 => 139 | 108 => 180 | n => n, fun | 28 => 26 | 3 => 3 | 4 => 4 | 0 => 0 | n => n, fun | n => n⟩
theorem Tryz.lays107 : Go.Proofs.Lays.n107 Tryz.prog Tryz.lays107_ren := {
 mixed := by kernel_rfl
 f107 := Tryz.func139.trans (congrArg some (by kernel_rfl))
 f108 := Tryz.func180.trans (congrArg some (by kernel_rfl))
 t0 := Tryz.underlying0
 a0 := Tryz.isAgg0
 z0 := Tryz.sizeOf0
 v0 := Tryz.zeroValue0
 t3 := Tryz.underlying3
 a3 := Tryz.isAgg3
 z3 := Tryz.sizeOf3
 v3 := Tryz.zeroValue3
 t4 := Tryz.underlying4
 a4 := Tryz.isAgg4
 z4 := Tryz.sizeOf4
 v4 := Tryz.zeroValue4
 t28 := Tryz.underlying26
 a28 := Tryz.isAgg26
 z28 := Tryz.sizeOf26
 v28 := Tryz.zeroValue26 }
open Go.Lib in
theorem Tryz.slices_Contains_int (b off n c : Nat) (zs : List Int) (x : Int) (w : World) (hz : n ≤ zs.length) (hbig : n ≤ 9223372036854775807) (hc : ∀ j, j < zs.length → w.cell? ⟨b, off + j, none⟩ = some (.int .i64 (zs.getD j 0))) :
  Calls Tryz.prog 139 #[.slice (some ⟨b, off, none⟩) n c, .int .i64 x] w fun e w' => e = .returned (.bool ((zs.take n).contains x)) ∧ w' = w := Any.slices_Contains_int Tryz.lays107 b off n c zs x w hz hbig hc
open Go.Lib in
theorem Tryz.slices_Contains_int_empty (a : Option Addr) (c : Nat) (x : Int) (w : World) :
  Calls Tryz.prog 139 #[.slice a 0 c, .int .i64 x] w fun e w' => e = .returned (.bool false) ∧ w' = w := Any.slices_Contains_int_empty Tryz.lays107 a c x w
def Tryz.lays109_ren : Go.Shelf.Ren := ⟨fun | 109 => 89 | n => n, fun | 31 => 28 | 9 => 9 | 3 => 3 | 0 => 0 | 4 => 4 | n => n, fun | n => n⟩
theorem Tryz.lays109 : Go.Proofs.Lays.n109 Tryz.prog Tryz.lays109_ren := {
 mixed := by kernel_rfl
 f109 := Tryz.func89.trans (congrArg some (by kernel_rfl))
 t0 := Tryz.underlying0
 a0 := Tryz.isAgg0
 z0 := Tryz.sizeOf0
 v0 := Tryz.zeroValue0
 t3 := Tryz.underlying3
 a3 := Tryz.isAgg3
 z3 := Tryz.sizeOf3
 v3 := Tryz.zeroValue3
 t4 := Tryz.underlying4
 a4 := Tryz.isAgg4
 z4 := Tryz.sizeOf4
 v4 := Tryz.zeroValue4
 t9 := Tryz.underlying9
 a9 := Tryz.isAgg9
 z9 := Tryz.sizeOf9
 v9 := Tryz.zeroValue9
 t31 := Tryz.underlying28
 a31 := Tryz.isAgg28
 z31 := Tryz.sizeOf28
 v31 := Tryz.zeroValue28 }
open Go.Lib in
theorem Tryz.slices_Index_string (b off n c : Nat) (zs : List ByteArray) (x : ByteArray) (w : World) (hz : n ≤ zs.length) (hbig : n ≤ 9223372036854775807) (hc : ∀ j, j < zs.length → w.cell? ⟨b, off + j, none⟩ = some (.string (zs.getD j ByteArray.empty))) :
  Calls Tryz.prog 89 #[.slice (some ⟨b, off, none⟩) n c, .string x] w fun e w' => e = .returned (.int .i64 (Lib.idxOfS (zs.take n) x)) ∧ w' = w := Any.slices_Index_string Tryz.lays109 b off n c zs x w hz hbig hc
open Go.Lib in
theorem Tryz.slices_Index_string_empty (a : Option Addr) (c : Nat) (x : ByteArray) (w : World) :
  Calls Tryz.prog 89 #[.slice a 0 c, .string x] w fun e w' => e = .returned (.int .i64 (Lib.idxOfS [] x)) ∧ w' = w := Any.slices_Index_string_empty Tryz.lays109 a c x w
def Tryz.lays110_ren : Go.Shelf.Ren := ⟨fun | 110 => 164 | 109 => 89 | n => n, fun | 31 => 28 | 9 => 9 | 4 => 4 | 3 => 3 | 0 => 0 | n => n, fun | n => n⟩
theorem Tryz.lays110 : Go.Proofs.Lays.n110 Tryz.prog Tryz.lays110_ren := {
 mixed := by kernel_rfl
 f109 := Tryz.func89.trans (congrArg some (by kernel_rfl))
 f110 := Tryz.func164.trans (congrArg some (by kernel_rfl))
 t0 := Tryz.underlying0
 a0 := Tryz.isAgg0
 z0 := Tryz.sizeOf0
 v0 := Tryz.zeroValue0
 t3 := Tryz.underlying3
 a3 := Tryz.isAgg3
 z3 := Tryz.sizeOf3
 v3 := Tryz.zeroValue3
 t4 := Tryz.underlying4
 a4 := Tryz.isAgg4
 z4 := Tryz.sizeOf4
 v4 := Tryz.zeroValue4
 t9 := Tryz.underlying9
 a9 := Tryz.isAgg9
 z9 := Tryz.sizeOf9
 v9 := Tryz.zeroValue9
 t31 := Tryz.underlying28
 a31 := Tryz.isAgg28
 z31 := Tryz.sizeOf28
 v31 := Tryz.zeroValue28 }
open Go.Lib in
theorem Tryz.slices_Contains_string (b off n c : Nat) (zs : List ByteArray) (x : ByteArray) (w : World) (hz : n ≤ zs.length) (hbig : n ≤ 9223372036854775807) (hc : ∀ j, j < zs.length → w.cell? ⟨b, off + j, none⟩ = some (.string (zs.getD j ByteArray.empty))) :
  Calls Tryz.prog 164 #[.slice (some ⟨b, off, none⟩) n c, .string x] w fun e w' => e = .returned (.bool (Lib.containsS (zs.take n) x)) ∧ w' = w := Any.slices_Contains_string Tryz.lays110 b off n c zs x w hz hbig hc
open Go.Lib in
theorem Tryz.slices_Contains_string_empty (a : Option Addr) (c : Nat) (x : ByteArray) (w : World) :
  Calls Tryz.prog 164 #[.slice a 0 c, .string x] w fun e w' => e = .returned (.bool false) ∧ w' = w := Any.slices_Contains_string_empty Tryz.lays110 a c x w
def Tryz.lays113_ren : Go.Shelf.Ren := ⟨fun | 113 => 53 | n => n, fun | 28 => 26 | 3 => 3 | 4 => 4 | 9 => 9 | 20 => 20 | 0 => 0 | n => n, fun | n => n⟩
theorem Tryz.lays113 : Go.Proofs.Lays.n113 Tryz.prog Tryz.lays113_ren := {
 mixed := by kernel_rfl
 f113 := Tryz.func53.trans (congrArg some (by kernel_rfl))
 t0 := Tryz.underlying0
 a0 := Tryz.isAgg0
 z0 := Tryz.sizeOf0
 v0 := Tryz.zeroValue0
 t3 := Tryz.underlying3
 a3 := Tryz.isAgg3
 z3 := Tryz.sizeOf3
 v3 := Tryz.zeroValue3
 t4 := Tryz.underlying4
 a4 := Tryz.isAgg4
 z4 := Tryz.sizeOf4
 v4 := Tryz.zeroValue4
 t9 := Tryz.underlying9
 a9 := Tryz.isAgg9
 z9 := Tryz.sizeOf9
 v9 := Tryz.zeroValue9
 t20 := Tryz.underlying20
 a20 := Tryz.isAgg20
 z20 := Tryz.sizeOf20
 v20 := Tryz.zeroValue20
 t28 := Tryz.underlying26
 a28 := Tryz.isAgg26
 z28 := Tryz.sizeOf26
 v28 := Tryz.zeroValue26 }
open Go.Lib in
theorem Tryz.slices_Max_int (b off n c : Nat) (zs : List Int) (w : World) (hn : 0 < n) (hz : n ≤ zs.length) (hbig : n ≤ 9223372036854775807) (hc : ∀ j, j < zs.length → w.cell? ⟨b, off + j, none⟩ = some (.int .i64 (zs.getD j 0))) :
  Calls Tryz.prog 53 #[.slice (some ⟨b, off, none⟩) n c] w fun e w' => e = .returned (.int .i64 (Lib.maxOf (zs.take n))) ∧ w' = w := Any.slices_Max_int Tryz.lays113 b off n c zs w hn hz hbig hc
def Tryz.laysSlE041_f162_ren : Go.Shelf.Ren := ⟨fun | 41 => 162 | n => n, fun | 22 => 28 | 23 => 9 | 4 => 4 | n => n, fun | n => n⟩
theorem Tryz.laysSlE041_f162 : Go.Proofs.SlLaysE0.n41 Tryz.prog Tryz.laysSlE041_f162_ren := {
 mixed := by kernel_rfl
 f41 := ⟨Tryz.f162.name, by decide, Tryz.func162.trans (congrArg some (by kernel_rfl))⟩
 t4 := Tryz.underlying4
 a4 := Tryz.isAgg4
 z4 := Tryz.sizeOf4
 v4 := Tryz.zeroValue4
 t22 := Tryz.underlying28
 a22 := Tryz.isAgg28
 z22 := Tryz.sizeOf28
 v22 := Tryz.zeroValue28 }
open Go.RowKit Go.Lib in
theorem Tryz.slices_Clone (i0 : TypeInfo) (z : Value) (size bytes : Nat) (hi : Tryz.prog.info? 9 = some i0) (hz0 : i0.zero = some z) (hz1 : i0.size = size) (hz2 : i0.bytes = bytes) (hzs : z.cells.size = size) (hsz : 0 < size) (z23 : ∀ w, (Go.sizeOf 9).run Tryz.prog w = .ok size w) (b off n c : Nat) (news : List Value) (w : World) (hl : news.length = n * size) (hn : n ≤ maxLen) (hbig : n * bytes ≤ 140737488355328) (hc : ∀ j u, news[j]? = some u → w.cell? ⟨b, off + j, none⟩ = some u) (h1 : ∀ u ∈ news, u.oneCell' = true) :
  Calls Tryz.prog 162 #[.slice (some ⟨b, off, none⟩) n c] w fun e w' => ∃ v', e = .returned v' ∧ w'.ownsRow w.heap.size 9 size v' n news ∧ v' ≠ .slice none 0 0 ∧ Below w.heap.size w w' := AnyE.slices_Clone Tryz.laysSlE041_f162 i0 z size bytes hi hz0 hz1 hz2 hzs hsz z23 b off n c news w hl hn hbig hc h1
end Go.Proofs
namespace Go.Proofs.YtdjkedcpehhmnaaGreatDoor
open Go Go.RowKit
set_option linter.unusedVariables false
set_option linter.unusedSimpArgs false
set_option maxRecDepth 100000
theorem own_set_at {w : World} {base k : Nat} {e : TypeId} {g n cap : Nat} {xs : List Value} (h : w.ownsRow base e k (.slice (some ⟨g, 0, none⟩) n cap) n xs) (j : Nat) (hj : j < xs.length) (y : Value) :
  (w.setCell ⟨g, j, none⟩ y).ownsRow base e k (.slice (some ⟨g, 0, none⟩) n cap) n (xs.set j y) ∧ (∃ x, w.cell? ⟨g, j, none⟩ = some x) ∧ w.frozen? ⟨g, j, none⟩ = false ∧ base ≤ g ∧ g < w.heap.size ∧ (∃ s, w.shape? g = some (e, s)) := by
 have hl : xs.length = n * k := h.1
 rcases h.2 with ⟨h0, _⟩ | ⟨g', cap', cur, hv, hb, hg, hnc, hcm, hcs, ht⟩
 ·cases h0
 ·injection hv with e1 e2 e3
  injection e1 with e1
  injection e1 with e1 _ _
  subst e1; subst e3
  have hsz : j < cur.size := by
   have := congrArg List.length ht
   rw [List.length_take, Array.length_toList] at this
   omega
  refine ⟨⟨by simp [hl], .inr ⟨g, cap, cur.setIfInBounds j y, rfl, hb, heap_setCell hg j y, hnc, hcm, by simpa using hcs, ?_⟩⟩, ⟨cur[j], by simp [World.cell?, hg, hsz]⟩, by simp [World.frozen?, hg], hb, lt_heap hg, ⟨cur.size, by simp [World.shape?, hg]⟩⟩
  rw [Array.toList_setIfInBounds, List.take_set, ht]
theorem infoStr : (Tryz.prog.info? 9).map (fun i => (i.zero, i.size, i.bytes)) = some (some (.string ⟨#[]⟩), 1, 16) := by kernel_rfl
def WordsAt (w : World) (B : Nat) (k : KeyV) (words : List Str) : Prop := k.wn = words.length ∧ w.ownsRow B 9 1 (.slice k.wa k.wn k.wc) k.wn (strVals words)
theorem own_frb {w w' : World} {P B B' k n : Nat} {e e' : TypeId} {v : Value} {xs : List Value} (h : w.ownsRow B' e' k v n xs) (hf : FrB P B e w w') (he : e' ≠ e) (hP : v.ownBlock ≠ some P) : w'.ownsRow B' e' k v n xs := by
 refine ⟨h.1, ?_⟩
 rcases h.2 with hn | ⟨g, cap, cur, rfl, hg, hgg, rest⟩
 ·exact .inl hn
 ·refine .inr ⟨g, cap, cur, rfl, hg, ?_, rest⟩
  exact hf.heap hgg (fun q => hP (by simp [Value.ownBlock, q])) he
set_option maxHeartbeats 2000000 in
theorem word_any (P B : Nat) (sec : Str) (kinds : Int) (kvs : List KeyV) (name : Str) (WB wc : Nat) (words : List Str) (w : World) (hG : GrpAt w P B sec kinds kvs) (hPB : P < B) (hBw : B ≤ w.heap.size)
  (hW : w.heap[WB]? = some (.cells (strVals words).toArray 9 (0, 0))) (hl : words.length ≤ 100) (hk : kvs.length ≤ 90) :
  Calls Tryz.prog 126 #[.pointer (some ⟨P, 0, none⟩), .string ⟨name.toArray⟩, .slice (some ⟨WB, 0, none⟩) words.length wc] w fun e w' => e = .returned (.tuple #[]) ∧ ∃ k : KeyV, (k.sec = sec ∧ k.name = name ∧ k.form = 10 ∧ k.list = false ∧ k.kinds = kinds) ∧ WordsAt w' w.heap.size k words ∧ GrpAt w' P B sec kinds (kvs ++ [k]) ∧ FrB P B 41 w w' := by
 obtain ⟨i0, hi0, hz0, hz1, hz2⟩ := info_parts infoStr
 have hb1 := (Below.refl w.heap.size w).alloc (Nat.le_refl _) (.cells #[.string ⟨name.toArray⟩] 9)
 have HS := h_ (some_any P B sec kinds 10 false kvs w.heap.size 1 [name] (w.alloc (.cells #[.string ⟨name.toArray⟩] 9)) (hG.below hb1) hPB (Nat.le_trans hBw hb1.size) (heap_alloc_new w _) (by simp) (by omega))
 have HW := h_ hW
 have HWP := h_ (show WB ≠ P from by rintro rfl; obtain ⟨ga, gc, h1, _⟩ := hG.ex; rw [hW] at h1; simp at h1)
 have HB1 := h_ hb1
 have HW1 := h_ (heap_below hW hb1)
 clear hG hW hb1
 go_enter Tryz.func126, Tryz.ntmps126
 go_wp2_with fail
 refine HS.out.mono ?_
 rintro e w2 ⟨rfl, hg2, hf2⟩
 have hf0 : FrB P B 41 w w2 := FrB.trans (show FrB P B 41 w (w.alloc (.cells #[.string ⟨name.toArray⟩] 9)) from Fr.of_below HB1.out _) hf2
 have HF2 := h_ hf0
 have HW2 := h_ (hf2.heap HW1.out HWP.out (by decide))
 obtain ⟨ga, gc, hbx, hown⟩ := hg2.ex
 have HBX := h_ hbx; have HOW := h_ hown
 have hln : (kvs ++ [name].map (plainK sec kinds 10 false)).length = kvs.length + 1 := by simp
 rw [hln] at HBX HOW
 obtain ⟨g, gc', e3, hcell, hBg, hglt⟩ := own_openK HOW.out (by omega)
 injection e3 with e3 _ e4
 subst e3; subst e4
 have HC := h_ (fun V (h : V.os = V.os ∨ True) (hc : ∀ j u, (strVals words)[j]? = some u → V.cell? ⟨WB, 0 + j, none⟩ = some u) => Tryz.slices_Clone i0 (.string ⟨#[]⟩) 1 16 hi0 hz0 hz1 hz2 (by rfl) (by decide) (fun w => by rfl) WB 0 words.length wc (strVals words) V (by simp [strVals]) (by unfold maxLen; omega) (by omega) hc (strVals_one _))
 have HST := h_ (own_set_at HOW.out (kvs.length * 6 + 5) (by rw [HOW.out.1]; omega))
 have hflat : flatL encK (kvs ++ [name].map (plainK sec kinds 10 false)) = flatL encK kvs ++ encK (plainK sec kinds 10 false name) := by rw [flatL_append]; simp [flatL]
 have HFL := h_ hflat
 have hgP : g ≠ P := by omega
 have i1 : (kvs.length : Int) ≤ 90 := by omega
 have i2 : IntKind.i64.wrap (kvs.length : Int) = (kvs.length : Int) := IntWalk.i64_in _ (by omega)
 clear hf2 hf0 hg2 hbx hown hcell hln hflat HS HW1
 go_wp2_with fail
 refine wp_region_drawT (S := fun V => V.heap[P]? = some (.cells #[.string ⟨sec.toArray⟩, .int .i64 kinds, .slice (some ⟨g, 0, none⟩) (kvs.length + 1) gc] 158 (0, 0)) ∧ Below w2.heap.size w2 V) 12 (by kernel_rfl) (by kernel_rfl) ⟨HBX.out, below_dn ⟨1, rfl⟩⟩ (fun hHeld => ?_)
 try simp only [Act.put, sA_, sB_, sC_]
 refine dT_ (i := 0) (v := .pointer (some ⟨P, 0, none⟩)) (gT_ rfl) (fun W hW => by obtain ⟨q0, q1, q2⟩ := cells3 hW.1; clear hW; go_simp) ?_
 try simp only [Act.put, sA_, sB_, sC_]
 refine dT_ (i := 1) (v := .pointer (some ⟨P, 0, none⟩)) (gT_ rfl) (fun W hW => by obtain ⟨q0, q1, q2⟩ := cells3 hW.1; clear hW; go_simp) ?_
 try simp only [Act.put, sA_, sB_, sC_]
 refine dT_ (i := 2) (v := .pointer (some ⟨P, 2, none⟩)) (gT_ rfl) (fun W hW => by obtain ⟨q0, q1, q2⟩ := cells3 hW.1; clear hW; go_simp) ?_
 try simp only [Act.put, sA_, sB_, sC_]
 refine dT_ (i := 3) (v := .slice (some ⟨g, 0, none⟩) (kvs.length + 1) gc) (gT_ rfl) (fun W hW => by obtain ⟨q0, q1, q2⟩ := cells3 hW.1; clear hW; go_simp) ?_
 try simp only [Act.put, sA_, sB_, sC_]
 refine dT_ (i := 4) (v := .pointer (some ⟨P, 0, none⟩)) (gT_ rfl) (fun W hW => by obtain ⟨q0, q1, q2⟩ := cells3 hW.1; clear hW; go_simp) ?_
 try simp only [Act.put, sA_, sB_, sC_]
 refine dT_ (i := 5) (v := .pointer (some ⟨P, 0, none⟩)) (gT_ rfl) (fun W hW => by obtain ⟨q0, q1, q2⟩ := cells3 hW.1; clear hW; go_simp) ?_
 try simp only [Act.put, sA_, sB_, sC_]
 refine dT_ (i := 6) (v := .pointer (some ⟨P, 2, none⟩)) (gT_ rfl) (fun W hW => by obtain ⟨q0, q1, q2⟩ := cells3 hW.1; clear hW; go_simp) ?_
 try simp only [Act.put, sA_, sB_, sC_]
 refine dT_ (i := 7) (v := .slice (some ⟨g, 0, none⟩) (kvs.length + 1) gc) (gT_ rfl) (fun W hW => by obtain ⟨q0, q1, q2⟩ := cells3 hW.1; clear hW; go_simp) ?_
 try simp only [Act.put, sA_, sB_, sC_]
 refine dT_ (i := 8) (v := .int .i64 ((kvs.length : Int) + 1)) (gT_ rfl) (fun W hW => by obtain ⟨q0, q1, q2⟩ := cells3 hW.1; clear hW; go_simp) ?_
 try simp only [Act.put, sA_, sB_, sC_]
 refine dT_ (i := 9) (v := .int .i64 kvs.length) (gT_ rfl) (fun W hW => by obtain ⟨q0, q1, q2⟩ := cells3 hW.1; clear hW; go_simp) ?_
 try simp only [Act.put, sA_, sB_, sC_]
 refine dT_ (i := 10) (v := .slice (some ⟨WB, 0, none⟩) words.length wc) (gT_ rfl) (fun W hW => by obtain ⟨q0, q1, q2⟩ := cells3 hW.1; clear hW; go_simp) ?_
 try simp only [Act.put, sA_, sB_, sC_]
 refine drawT_one (i := 11) (gT_ rfl) (by kernel_rfl) (by kernel_rfl) (fun K hK => ?_)
 clear hHeld
 rw [if_pos (by rfl)]
 go_simp
 refine (HC.out _ (.inr trivial) (fun j u hj => by rw [Nat.zero_add]; show w2.cell? ⟨WB, j, none⟩ = some u; rw [(rd HW2.out).1 j, List.getElem?_toArray]; exact hj)).mono ?_
 rintro e w3 ⟨v3, rfl, ho3, hne3, hb3⟩
 obtain ⟨wa3, wc3, rfl⟩ := ownsRow_form ho3
 have HB3 := h_ ((show Below w2.heap.size w2 w2.drew from below_dn ⟨1, rfl⟩).trans hb3)
 have HO3 := h_ (show w3.ownsRow w2.heap.size 9 1 (.slice wa3 words.length wc3) words.length (strVals words) from ho3)
 clear ho3 hne3 hb3
 refine hK.out _ _ ⟨heap_below HBX.out HB3.out, HB3.out⟩ (fun hHeld => ?_)
 clear hK K
 try simp only [Act.put, sA_, sB_, sC_]
 refine drawT_done (by kernel_rfl) ?_
 clear hHeld
 obtain ⟨hset, ⟨ox, hox⟩, hfz, -, -, hshape⟩ := own_set_at (own_keeps HOW.out HB3.out) (kvs.length * 6 + 5) (by rw [HOW.out.1]; omega) (.slice wa3 words.length wc3)
 obtain ⟨sh, hshape⟩ := hshape
 go_wp2_with fail
 refine ⟨rfl, _, results_none rfl _ _ _, rfl, ⟨sec, name, 10, false, kinds, wa3, words.length, wc3⟩, ⟨rfl, rfl, rfl, rfl, rfl⟩, ⟨rfl, ?_⟩, ⟨some ⟨g, 0, none⟩, gc, ?_, ?_⟩, ?_⟩
 ·have hne : (Value.slice wa3 words.length wc3).ownBlock ≠ some g := by
   intro q
   have := (World.ownsRow.lt HO3.out g q).1
   omega
  have h1 : (w3.setCell ⟨g, kvs.length * 6 + 5, none⟩ (.slice wa3 words.length wc3)).ownsRow w2.heap.size 9 1 (.slice wa3 words.length wc3) words.length (strVals words) := by
   refine ⟨HO3.out.1, ?_⟩
   rcases HO3.out.2 with hn | ⟨g2, cp, cur, hv, hg2, hgg, rest⟩
   ·exact .inl hn
   ·refine .inr ⟨g2, cp, cur, hv, hg2, heap_other hgg (a := ⟨g, kvs.length * 6 + 5, none⟩) (by show g2 ≠ g; omega) _, rest⟩
  refine ⟨h1.1, ?_⟩
  rcases h1.2 with hn | ⟨g2, cp, cur, hv, hg2, hgg, rest⟩
  ·exact .inl hn
  ·exact .inr ⟨g2, cp, cur, hv, by have := HF2.out.size; omega, hgg, rest⟩
 ·rw [List.length_append]
  exact heap_other (heap_below HBX.out HB3.out) (a := ⟨g, kvs.length * 6 + 5, none⟩) (by show P ≠ g; omega) _
 ·have e1 : (flatL encK (kvs ++ [name].map (plainK sec kinds 10 false))).set (kvs.length * 6 + 5) (.slice wa3 words.length wc3) = flatL encK (kvs ++ [⟨sec, name, 10, false, kinds, wa3, words.length, wc3⟩]) := by
   rw [HFL.out, flatL_append, flatL_one]
   have hlk : (flatL encK kvs).length = kvs.length * 6 := flatL_length (enc := encK) (k := 6) (fun _ => rfl) kvs
   rw [List.set_append_right _ _ (by omega), hlk, show kvs.length * 6 + 5 - kvs.length * 6 = 5 by omega]
   rfl
  have e2 : (kvs ++ [(⟨sec, name, 10, false, kinds, wa3, words.length, wc3⟩ : KeyV)]).length = kvs.length + 1 := by simp
  rw [e1] at hset
  rw [e2]
  exact hset
 ·have f3 : FrB P B 41 w w3 := HF2.out.trans (show FrB P B 41 w2 w3 from Fr.of_below HB3.out _)
  refine Fr.setCell f3 (p := ⟨g, kvs.length * 6 + 5, none⟩) (fun hgw => .inr ⟨hBg, ?_⟩) _
  obtain ⟨cs, fz, hh⟩ := (ownsRow_row HOW.out g rfl).2
  by_cases hm : g = P ∨ (B ≤ g ∧ RowOf 41 w g)
  ·rcases hm with h | h
   ·omega
   ·exact h.2
  ·exact ⟨cs, fz, by rw [← HF2.out.block g hgw hm]; exact hh⟩
theorem wpList_append_run2 {P : Program} {w : World} {ops : Array Oper} {rest : List Oper} {o : Oper} {a : Act} {Q : Exit → Act → World → Prop} (hw : Region.wanted o (yielded ops a.tmps) = true) (s x : Operand) (t t2 : TypeId)
  (ho : o.op = .call { callee := .builtin .append, args := #[s, x], argTypes := #[t, t2] }) {v xv v' : Value} {w' : World} (hr : (Builtin.append_ #[t, t2] o.type #[v, xv]).run P w = .ok v' w') (hs : a.eval s = v) (hx : a.eval x = xv)
  (h : wpList P ops Q rest (a.put o.dst v') w') : wpList P ops Q (o :: rest) a w := by
 refine wpList_step fun K hK => ?_
 rw [if_pos hw]
 unfold Oper.wp execOp
 simp only [ho, resolve, invoke, builtin, Sem.run_bind, Sem.run_pure, Result.andThen_ok, List.map_toArray, List.map_cons, List.map_nil, hs, hx, hr]
 exact hK _ _ h
def OwnOutK (w : World) (l : List KeyV) (e : Ending) (w' : World) : Prop := ∃ v, e = .returned v ∧ w'.ownsRow w.heap.size 41 6 v l.length (flatL encK l) ∧ Below w.heap.size w w'
set_option maxHeartbeats 1000000 in
theorem growK_any (n : Nat) (w : World) (hn : n < 1073741824) : Calls Tryz.prog 163 #[.slice none 0 0, .int .i64 n] w fun e w' => ∃ v, e = .returned v ∧ w'.ownsRow w.heap.size 41 6 v 0 [] ∧ Below w.heap.size w w' := by
 obtain ⟨i0, hi0, hz0, hz1, hz2⟩ := info_parts infoKey
 by_cases h0 : n = 0
 ·subst h0
  go_enter Tryz.func163, Tryz.ntmps163
  go_wp2_with fail
  go_ret
  exact ⟨_, rfl, World.ownsRow_nil _ _ _ _, Below.refl _ _⟩
 ·have hrun : ∀ ty, (Builtin.append_ #[38, 3] ty #[.slice none 0 0, .int .i64 (n : Int)]).run Tryz.prog w = .ok (.slice (some ⟨w.heap.size, 0, none⟩) (0 + n) (grownCap w (0 + n) 0 41)) (w.drew.alloc (.cells (#[] ++ Builtin.zeroCells (Value.agg #[.string ⟨#[]⟩, .string ⟨#[]⟩, .int .i64 0, .bool false, .int .i64 0, .slice none 0 0]).cells n ++ Builtin.zeroCells (Value.agg #[.string ⟨#[]⟩, .string ⟨#[]⟩, .int .i64 0, .bool false, .int .i64 0, .slice none 0 0]).cells (grownCap w (0 + n) 0 41 - (0 + n))) 41)) := fun ty =>
   Lib.run_append_grow_zeros w 38 3 ty 41 i0 (.agg #[.string ⟨#[]⟩, .string ⟨#[]⟩, .int .i64 0, .bool false, .int .i64 0, .slice none 0 0]) .i64 .i64 Tryz.underlying38 Tryz.underlying3 hi0 hz0 none 0 0 [] (run_firstCells_none w.drew i0.size 0 0 0) n (by omega) (by omega) (by omega) (by omega) (by rw [hz2]; omega) (growslice_fits (by omega) (by rw [hz2]; omega))
  have hG := grownCap_ge w (0 + n) 0 41
  have hM := grownCap_le_maxLen w (0 + n) 0 41 (by unfold maxLen; omega)
  generalize grownCap w (0 + n) 0 41 = G at *
  have HR := h_ hrun
  have hown : (w.drew.alloc (.cells (#[] ++ Builtin.zeroCells (Value.agg #[.string ⟨#[]⟩, .string ⟨#[]⟩, .int .i64 0, .bool false, .int .i64 0, .slice none 0 0]).cells n ++ Builtin.zeroCells (Value.agg #[.string ⟨#[]⟩, .string ⟨#[]⟩, .int .i64 0, .bool false, .int .i64 0, .slice none 0 0]).cells (G - (0 + n))) 41)).ownsRow w.heap.size 41 6 (.slice (some ⟨w.heap.size, 0, none⟩) 0 G) 0 [] := by
   refine ⟨rfl, .inr ⟨w.heap.size, G, _, rfl, Nat.le_refl _, heap_alloc_new w.drew _, Nat.zero_le _, hM, ?_, by simp⟩⟩
   simp [Builtin.zeroCells, Value.cells]
   omega
  have HO := h_ hown
  have HB := h_ ((show Below w.heap.size w w.drew from below_dn ⟨1, rfl⟩).alloc (Nat.le_refl _) (.cells (#[] ++ Builtin.zeroCells (Value.agg #[.string ⟨#[]⟩, .string ⟨#[]⟩, .int .i64 0, .bool false, .int .i64 0, .slice none 0 0]).cells n ++ Builtin.zeroCells (Value.agg #[.string ⟨#[]⟩, .string ⟨#[]⟩, .int .i64 0, .bool false, .int .i64 0, .slice none 0 0]).cells (G - (0 + n))) 41))
  clear hrun hown
  have h1 : ¬ ((n : Int) < 0) := by omega
  have h2 : wrap64 ((n : Int) - 0) = (n : Int) := by unfold wrap64; omega
  have h2b : wrap64 (n : Int) = (n : Int) := by unfold wrap64; omega
  have h4 : (n : Int) > 0 := by omega
  have h5 : (0 : Int) < n := h4
  have hM2 : (G : Int) ≤ 9223372036854775807 := by unfold maxLen at hM; omega
  generalize hw1 : w.drew.alloc _ = w1 at *
  clear hw1
  go_enter Tryz.func163, Tryz.ntmps163
  go_wp2_with (at_builtin; refine wpList_append_run2 rfl _ _ 38 3 rfl (HR.out _) rfl rfl ?_)
  go_ret
  exact ⟨_, rfl, HO.out, HB.out⟩
structure RowsK (w : World) (G : Nat) (ls : List (List KeyV)) : Prop where
 lt : G < w.heap.size
 row : ∀ k (h : k < ls.length), ∃ oa cap, w.cell? ⟨G, k, none⟩ = some (.slice oa ls[k].length cap) ∧ RowRd encK 6 w oa ls[k]
theorem RowsK.below {w w' : World} {G : Nat} {ls : List (List KeyV)} (h : RowsK w G ls) (hb : Below w.heap.size w w') : RowsK w' G ls :=
 ⟨Nat.lt_of_lt_of_le h.lt hb.size, fun k hk => by obtain ⟨oa, cap, h1, h2⟩ := h.row k hk; exact ⟨oa, cap, by rw [hb.cell h.lt]; exact h1, h2.below hb⟩⟩
theorem flat_take_succ (ls : List (List KeyV)) (k : Nat) (h : k < ls.length) : (ls.take (k + 1)).flatten = (ls.take k).flatten ++ ls[k] := by
 rw [List.take_succ_eq_append_getElem h, List.flatten_append]; simp
theorem flat_take_le (ls : List (List KeyV)) (k : Nat) : (ls.take k).flatten.length ≤ ls.flatten.length := by
 have : ls.flatten = (ls.take k).flatten ++ (ls.drop k).flatten := by rw [← List.flatten_append, List.take_append_drop]
 rw [this, List.length_append]; omega
set_option maxHeartbeats 1000000 in
theorem concatK_any (G cap0 : Nat) (ls : List (List KeyV)) (w : World) (hr : RowsK w G ls) (hl : ls.length < 1000) (hs : ls.flatten.length < 1073741824) :
  Calls Tryz.prog 127 #[.slice (some ⟨G, 0, none⟩) ls.length cap0] w fun e w' => OwnOutK w ls.flatten e w' := by
 obtain ⟨i0, hi0, hz0, hz1, hz2⟩ := info_parts infoKey
 have HR := h_ hr; clear hr
 have HS := h_ hs
 go_enter Tryz.func127, Tryz.ntmps127
 go_wp2_with fail
 go_loopg [3, 11] (ls.length + 1) (fun f n i wr => ∃ k : Nat, k ≤ ls.length ∧ i = .int .i64 k ∧ n = .int .i64 ((ls.take k).flatten.length : Nat) ∧ ls.length - k < f ∧ w = wr)
 case atStart => exact ⟨0, by omega, rfl, by simp, by omega, rfl⟩
 case round =>
  obtain ⟨k, hk, rfl, rfl, hfu, rfl⟩ := hrel
  by_cases hlt : k < ls.length
  ·obtain ⟨oa, cap, hc, -⟩ := HR.out.row k hlt
   have hN := flat_take_succ ls k hlt
   have hle := flat_take_le ls (k + 1)
   have hlen : (ls.take (k + 1)).flatten.length = (ls.take k).flatten.length + ls[k].length := by rw [hN, List.length_append]
   rw [hlen] at hle
   have HL := h_ hlen
   clear hN hlen
   generalize (ls.take k).flatten.length = a at *
   generalize ls[k].length = b at *
   have i5 : (k : Int) < (ls.length : Int) := by omega
   have h2 : wrap64 ((a : Int) + (b : Int)) = (a : Int) + (b : Int) := by unfold wrap64; omega
   have h3 : ¬ ((a : Int) + (b : Int) < 0) := by omega
   go_wp2_with fail
   go_roundg (gk - 1)
   case measure => omega
   case rel => exact ⟨k + 1, by omega, by go_num, by rw [HL.out]; go_num, by omega, rfl⟩
  ·have hke : k = ls.length := by omega
   subst hke
   rw [List.take_length]
   have hge : ¬ ((ls.length : Int) < (ls.length : Int)) := by omega
   have HG := h_ (growK_any ls.flatten.length w hs)
   generalize hFN : ls.flatten.length = N at HG ⊢
   have HFN := h_ hFN; clear hFN
   go_wp2_with fail
   refine HG.out.mono ?_
   rintro e w1 ⟨v0, rfl, ho, hb⟩
   obtain ⟨ao, cap1, rfl⟩ := ownsRow_form ho
   have HO := h_ ho; have HB := h_ hb
   clear ho hb HG hfu hk hlt
   go_wp2_with fail
   go_loopg [6, 27] (ls.length + 1) (fun f v i w2 => ∃ k : Nat, k ≤ ls.length ∧ i = .int .i64 k ∧ ls.length - k < f ∧ Hid (w2.ownsRow w.heap.size 41 6 v (ls.take k).flatten.length (flatL encK (ls.take k).flatten)) ∧ Hid (Below w.heap.size w w2))
   case atStart => exact ⟨0, by omega, rfl, by omega, HO, HB⟩
   case round =>
    obtain ⟨k, hk, rfl, hfu, Hown, Hb⟩ := hrel
    clear HO HB
    obtain ⟨oa', cap', rfl⟩ := ownsRow_form Hown.out
    by_cases hlt : k < ls.length
    ·obtain ⟨oa, cap, hc, hrow⟩ := (HR.out.below Hb.out).row k hlt
     have hN := flat_take_succ ls k hlt
     have hle := Nat.lt_of_le_of_lt (flat_take_le ls (k + 1)) HS.out
     rw [hN, List.length_append] at hle
     have HN := h_ hN
     have i5 : (k : Int) < (ls.length : Int) := by omega
     obtain ⟨v', w3, hrun, hown, hgrow⟩ := append_rows w.heap.size 38 38 41 i0 (.agg #[.string ⟨#[]⟩, .string ⟨#[]⟩, .int .i64 0, .bool false, .int .i64 0, .slice none 0 0]) 6 80 Tryz.underlying38 hi0 hz0 hz1 hz2 rfl (by decide) _ _ _ Hown.out oa ls[k].length cap (flatL encK ls[k]) (by rw [flatL_length (enc := encK) (k := 6) (fun _ => rfl)]) (RowRd.flat (enc := encK) (k := 6) (fun _ => rfl) (by omega) hrow) (flatL_oneCell encK_one _) (by unfold maxLen; omega) (by omega) Hb.out.size
     have HRUN := h_ hrun
     have HB3 := h_ (Hb.out.grown hgrow Hb.out.size (fun g hg => (Hown.out.lt g hg).1))
     have HO3 := h_ (show w3.ownsRow w.heap.size 41 6 v' (ls.take (k + 1)).flatten.length (flatL encK (ls.take (k + 1)).flatten) by rw [hN, List.length_append, flatL_append]; exact hown)
     clear hrun hown hgrow hN hrow
     go_wp2_with (at_builtin; refine wpList_append_run rfl _ _ 38 rfl HRUN.out rfl rfl ?_)
     obtain ⟨ao, cap2, rfl⟩ := ownsRow_form HO3.out
     go_roundg (gk - 1)
     case measure => omega
     case rel => exact ⟨k + 1, by omega, by go_num, by omega, HO3, HB3⟩
    ·have hke : k = ls.length := by omega
     subst hke
     have hge : ¬ ((ls.length : Int) < (ls.length : Int)) := by omega
     have HO3 := h_ (by have := Hown.out; rw [List.take_length] at this; exact this)
     clear Hown
     rw [List.take_length]
     generalize hFL : ls.flatten = FL at HO3 ⊢
     have HFL := h_ hFL; clear hFL
     go_wp2_with fail
     go_ret
     exact ⟨_, rfl, by rw [HFL.out]; exact HO3.out, Hb.out⟩
end Go.Proofs.YtdjkedcpehhmnaaGreatDoor

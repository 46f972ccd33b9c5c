/- Parts of one proof, merged: XSh XBu. -/
import Derived.Shelf.Strings.Prefix
import Derived.Shelf.Small.Strs
import Derived.Shelf.Small.Utf8
import Derived.Shelf.Small.Wraps
import Derived.Shelf.Strconv.Itoa3
import Derived.Shelf.Unicode.DecodeAny
import Derived.Shelf.Unicode.ValidAny
import Derived.Shelf.Strings.SlTrimAscii
import Derived.Shelf.Strings.SplitShaped
import Derived.Shelf.Strings.OnBuilder
import Derived.Shelf.Strings.Repeat
import Derived.Shelf.SlicesQ.IndexFunc
import Derived.Shelf.SlGeneric
import Derived.Ground.NamesProg
import Derived.Ground.SlgfProg
import Derived.Test.YtckbnjipecclaaaGreatDoorProg
import Derived.Test.YtckbnjipecclaaaGreatDoorHkB
import Derived.Lib.UnsafeStr
import Derived.Lib.AppendStr
import Derived.Test.YtckbnjipecclaaaGreatDoorHkG
set_option linter.all false
set_option maxHeartbeats 12800000
set_option maxRecDepth 10000
set_option linter.unusedVariables false
set_option linter.unusedSimpArgs false
set_option linter.unnecessarySimpa false
namespace Go.Proofs
open Go.Shelf
def Tryz.shHasPrefix_ren : Go.Shelf.Ren := ⟨fun | 99 => 153 | 206 => 196 | n => n, fun | 9 => 9 | 4 => 4 | 3 => 3 | n => n, fun | n => n⟩
theorem Tryz.shHasPrefix : Go.Proofs.Lays.n99 Tryz.prog Tryz.shHasPrefix_ren := {
 mixed := by kernel_rfl
 f99 := Tryz.func153.trans (congrArg some (by kernel_rfl))
 f206 := Tryz.func196.trans (congrArg some (by kernel_rfl))
 t3 := Tryz.underlying3
 a3 := Tryz.isAgg3
 z3 := Tryz.sizeOf3
 v3 := Tryz.zeroValue3
 t4 := Tryz.underlying4
 a4 := Tryz.isAgg4
 z4 := Tryz.sizeOf4
 v4 := Tryz.zeroValue4
 t9 := Tryz.underlying9
 a9 := Tryz.isAgg9
 z9 := Tryz.sizeOf9
 v9 := Tryz.zeroValue9 }
def Tryz.shIndexByte_ren : Go.Shelf.Ren := ⟨fun | 137 => 92 | 217 => 128 | 266 => 166 | n => n, fun | 9 => 9 | 5 => 5 | 3 => 3 | n => n, fun | n => n⟩
theorem Tryz.shIndexByte : Go.Proofs.Lays.n137 Tryz.prog Tryz.shIndexByte_ren := {
 mixed := by kernel_rfl
 f137 := Tryz.func92.trans (congrArg some (by kernel_rfl))
 f217 := Tryz.func128.trans (congrArg some (by kernel_rfl))
 f266 := Tryz.func166.trans (congrArg some (by kernel_rfl))
 t3 := Tryz.underlying3
 a3 := Tryz.isAgg3
 z3 := Tryz.sizeOf3
 v3 := Tryz.zeroValue3
 t5 := Tryz.underlying5
 a5 := Tryz.isAgg5
 z5 := Tryz.sizeOf5
 v5 := Tryz.zeroValue5
 t9 := Tryz.underlying9
 a9 := Tryz.isAgg9
 z9 := Tryz.sizeOf9
 v9 := Tryz.zeroValue9 }
def Tryz.shFormatBool_ren : Go.Shelf.Ren := ⟨fun | 121 => 172 | 214 => 205 | n => n, fun | 4 => 4 | 9 => 9 | n => n, fun | n => n⟩
theorem Tryz.shFormatBool : Go.Proofs.Lays.n121 Tryz.prog Tryz.shFormatBool_ren := {
 mixed := by kernel_rfl
 f121 := Tryz.func172.trans (congrArg some (by kernel_rfl))
 f214 := Tryz.func205.trans (congrArg some (by kernel_rfl))
 t4 := Tryz.underlying4
 a4 := Tryz.isAgg4
 z4 := Tryz.sizeOf4
 v4 := Tryz.zeroValue4
 t9 := Tryz.underlying9
 a9 := Tryz.isAgg9
 z9 := Tryz.sizeOf9
 v9 := Tryz.zeroValue9 }
def Tryz.shItoa_ren : Go.Shelf.Ren := ⟨fun | 171 => 157 | 243 => 197 | 246 => 218 | 283 => 229 | 284 => 230 | 285 => 231 | 286 => 232 | 129 => 191 | 317 => 243 | 318 => 244 | 319 => 245 | 320 => 246 | 337 => 250 | 338 => 251 | n => n, fun | 3 => 3 | 9 => 9 | 2 => 2 | 4 => 4 | 171 => 251 | 0 => 0 | 53 => 225 | 37 => 82 | 5 => 5 | 173 => 253 | 212 => 262 | 51 => 139 | 20 => 20 | 213 => 263 | 46 => 125 | 232 => 22 | 233 => 267 | n => n, fun | 17 => 4 | 18 => 5 | 19 => 6 | n => n⟩
theorem Tryz.shItoa : Go.Proofs.LaysM.n171 Tryz.prog Tryz.shItoa_ren := {
 mixed := by kernel_rfl
 f129 := Tryz.func191.trans (congrArg some (by kernel_rfl))
 f171 := Tryz.func157.trans (congrArg some (by kernel_rfl))
 f243 := Tryz.func197.trans (congrArg some (by kernel_rfl))
 f246 := Tryz.func218.trans (congrArg some (by kernel_rfl))
 f283 := Tryz.func229.trans (congrArg some (by kernel_rfl))
 f284 := Tryz.func230.trans (congrArg some (by kernel_rfl))
 f285 := Tryz.func231.trans (congrArg some (by kernel_rfl))
 f286 := Tryz.func232.trans (congrArg some (by kernel_rfl))
 f317 := Tryz.func243.trans (congrArg some (by kernel_rfl))
 f318 := Tryz.func244.trans (congrArg some (by kernel_rfl))
 f319 := Tryz.func245.trans (congrArg some (by kernel_rfl))
 f320 := Tryz.func246.trans (congrArg some (by kernel_rfl))
 f337 := Tryz.func250.trans (congrArg some (by kernel_rfl))
 f338 := Tryz.func251.trans (congrArg some (by kernel_rfl))
 t0 := Tryz.underlying0
 a0 := Tryz.isAgg0
 z0 := Tryz.sizeOf0
 v0 := Tryz.zeroValue0
 t2 := Tryz.underlying2
 a2 := Tryz.isAgg2
 z2 := Tryz.sizeOf2
 v2 := Tryz.zeroValue2
 t3 := Tryz.underlying3
 a3 := Tryz.isAgg3
 z3 := Tryz.sizeOf3
 v3 := Tryz.zeroValue3
 t4 := Tryz.underlying4
 a4 := Tryz.isAgg4
 z4 := Tryz.sizeOf4
 v4 := Tryz.zeroValue4
 t5 := Tryz.underlying5
 a5 := Tryz.isAgg5
 z5 := Tryz.sizeOf5
 v5 := Tryz.zeroValue5
 t9 := Tryz.underlying9
 a9 := Tryz.isAgg9
 z9 := Tryz.sizeOf9
 v9 := Tryz.zeroValue9
 t20 := Tryz.underlying20
 a20 := Tryz.isAgg20
 z20 := Tryz.sizeOf20
 v20 := Tryz.zeroValue20
 t37 := Tryz.underlying82
 a37 := Tryz.isAgg82
 z37 := Tryz.sizeOf82
 v37 := Tryz.zeroValue82
 t46 := Tryz.underlying125
 a46 := Tryz.isAgg125
 z46 := Tryz.sizeOf125
 v46 := Tryz.zeroValue125
 t51 := Tryz.underlying139
 a51 := Tryz.isAgg139
 z51 := Tryz.sizeOf139
 v51 := Tryz.zeroValue139
 t53 := Tryz.underlying225
 a53 := Tryz.isAgg225
 z53 := Tryz.sizeOf225
 v53 := Tryz.zeroValue225
 t171 := Tryz.underlying251
 a171 := Tryz.isAgg251
 z171 := Tryz.sizeOf251
 v171 := Tryz.zeroValue251
 t173 := Tryz.underlying253
 a173 := Tryz.isAgg253
 z173 := Tryz.sizeOf253
 v173 := Tryz.zeroValue253
 t212 := Tryz.underlying262
 a212 := Tryz.isAgg262
 z212 := Tryz.sizeOf262
 v212 := Tryz.zeroValue262
 t213 := Tryz.underlying263
 a213 := Tryz.isAgg263
 z213 := Tryz.sizeOf263
 t232 := Tryz.underlying22
 a232 := Tryz.isAgg22
 z232 := Tryz.sizeOf22
 v232 := Tryz.zeroValue22
 t233 := Tryz.underlying267
 a233 := Tryz.isAgg267
 z233 := Tryz.sizeOf267
 v233 := Tryz.zeroValue267
 g17 := by kernel_rfl
 g18 := by kernel_rfl
 g19 := by kernel_rfl
 i0 := by kernel_rfl
 i2 := by kernel_rfl
 i3 := by kernel_rfl
 i4 := by kernel_rfl
 i5 := by kernel_rfl
 i9 := by kernel_rfl
 i20 := by kernel_rfl
 i37 := by kernel_rfl
 i46 := by kernel_rfl
 i51 := by kernel_rfl
 i53 := by kernel_rfl
 i171 := by kernel_rfl
 i173 := by kernel_rfl
 i212 := by kernel_rfl
 i232 := by kernel_rfl
 i233 := by kernel_rfl
 m17 := by kernel_rfl
 m18 := by kernel_rfl
 m19 := by kernel_rfl }
def Tryz.shDecode_ren : Go.Shelf.Ren := ⟨fun | 197 => 163 | 260 => 201 | n => n, fun | 9 => 9 | 21 => 21 | 3 => 3 | 4 => 4 | 5 => 5 | 105 => 200 | 119 => 193 | 0 => 0 | 46 => 125 | 139 => 196 | 138 => 195 | n => n, fun | 3 => 0 | 4 => 1 | n => n⟩
theorem Tryz.shDecode : Go.Proofs.Lays.n197 Tryz.prog Tryz.shDecode_ren := {
 mixed := by kernel_rfl
 f197 := Tryz.func163.trans (congrArg some (by kernel_rfl))
 f260 := Tryz.func201.trans (congrArg some (by kernel_rfl))
 t0 := Tryz.underlying0
 a0 := Tryz.isAgg0
 z0 := Tryz.sizeOf0
 v0 := Tryz.zeroValue0
 t3 := Tryz.underlying3
 a3 := Tryz.isAgg3
 z3 := Tryz.sizeOf3
 v3 := Tryz.zeroValue3
 t4 := Tryz.underlying4
 a4 := Tryz.isAgg4
 z4 := Tryz.sizeOf4
 v4 := Tryz.zeroValue4
 t5 := Tryz.underlying5
 a5 := Tryz.isAgg5
 z5 := Tryz.sizeOf5
 v5 := Tryz.zeroValue5
 t9 := Tryz.underlying9
 a9 := Tryz.isAgg9
 z9 := Tryz.sizeOf9
 v9 := Tryz.zeroValue9
 t21 := Tryz.underlying21
 a21 := Tryz.isAgg21
 z21 := Tryz.sizeOf21
 v21 := Tryz.zeroValue21
 t46 := Tryz.underlying125
 a46 := Tryz.isAgg125
 z46 := Tryz.sizeOf125
 v46 := Tryz.zeroValue125
 t105 := Tryz.underlying200
 a105 := Tryz.isAgg200
 z105 := Tryz.sizeOf200
 v105 := Tryz.zeroValue200
 t119 := Tryz.underlying193
 a119 := Tryz.isAgg193
 z119 := Tryz.sizeOf193
 t138 := Tryz.underlying195
 a138 := Tryz.isAgg195
 z138 := Tryz.sizeOf195
 v138 := Tryz.zeroValue195
 t139 := Tryz.underlying196
 a139 := Tryz.isAgg196
 z139 := Tryz.sizeOf196
 v139 := Tryz.zeroValue196
 g3 := by kernel_rfl
 g4 := by kernel_rfl }
def Tryz.shValid_ren : Go.Shelf.Ren := ⟨fun | 196 => 118 | 259 => 159 | n => n, fun | 9 => 9 | 4 => 4 | 3 => 3 | 5 => 5 | 12 => 12 | 119 => 193 | 0 => 0 | 46 => 125 | 139 => 196 | 138 => 195 | 53 => 225 | n => n, fun | 3 => 0 | 4 => 1 | n => n⟩
theorem Tryz.shValid : Go.Proofs.Lays.n196 Tryz.prog Tryz.shValid_ren := {
 mixed := by kernel_rfl
 f196 := Tryz.func118.trans (congrArg some (by kernel_rfl))
 f259 := Tryz.func159.trans (congrArg some (by kernel_rfl))
 t0 := Tryz.underlying0
 a0 := Tryz.isAgg0
 z0 := Tryz.sizeOf0
 v0 := Tryz.zeroValue0
 t3 := Tryz.underlying3
 a3 := Tryz.isAgg3
 z3 := Tryz.sizeOf3
 v3 := Tryz.zeroValue3
 t4 := Tryz.underlying4
 a4 := Tryz.isAgg4
 z4 := Tryz.sizeOf4
 v4 := Tryz.zeroValue4
 t5 := Tryz.underlying5
 a5 := Tryz.isAgg5
 z5 := Tryz.sizeOf5
 v5 := Tryz.zeroValue5
 t9 := Tryz.underlying9
 a9 := Tryz.isAgg9
 z9 := Tryz.sizeOf9
 v9 := Tryz.zeroValue9
 t12 := Tryz.underlying12
 a12 := Tryz.isAgg12
 z12 := Tryz.sizeOf12
 v12 := Tryz.zeroValue12
 t46 := Tryz.underlying125
 a46 := Tryz.isAgg125
 z46 := Tryz.sizeOf125
 v46 := Tryz.zeroValue125
 t53 := Tryz.underlying225
 a53 := Tryz.isAgg225
 z53 := Tryz.sizeOf225
 v53 := Tryz.zeroValue225
 t119 := Tryz.underlying193
 a119 := Tryz.isAgg193
 z119 := Tryz.sizeOf193
 t138 := Tryz.underlying195
 a138 := Tryz.isAgg195
 z138 := Tryz.sizeOf195
 v138 := Tryz.zeroValue195
 t139 := Tryz.underlying196
 a139 := Tryz.isAgg196
 z139 := Tryz.sizeOf196
 v139 := Tryz.zeroValue196
 g3 := by kernel_rfl
 g4 := by kernel_rfl }
def Tryz.shTrim_ren : Go.Shelf.Ren := ⟨fun | 160 => 90 | 232 => 122 | 231 => 121 | 227 => 123 | 234 => 125 | 233 => 124 | 236 => 127 | 235 => 126 | 228 => 162 | 271 => 165 | 151 => 164 | 197 => 163 | 120 => 203 | 152 => 202 | 260 => 201 | 137 => 92 | 119 => 222 | 224 => 223 | 225 => 224 | 217 => 128 | 266 => 166 | n => n, fun | 9 => 9 | 4 => 4 | 3 => 3 | 5 => 5 | 117 => 160 | 116 => 159 | 0 => 0 | 124 => 163 | 21 => 21 | 105 => 200 | 46 => 125 | 119 => 193 | 139 => 196 | 138 => 195 | n => n, fun | 3 => 0 | 4 => 1 | n => n⟩
theorem Tryz.shTrim : Go.Proofs.Lays.n160 Tryz.prog Tryz.shTrim_ren := {
 mixed := by kernel_rfl
 f119 := Tryz.func222.trans (congrArg some (by kernel_rfl))
 f120 := Tryz.func203.trans (congrArg some (by kernel_rfl))
 f137 := Tryz.func92.trans (congrArg some (by kernel_rfl))
 f151 := Tryz.func164.trans (congrArg some (by kernel_rfl))
 f152 := Tryz.func202.trans (congrArg some (by kernel_rfl))
 f160 := Tryz.func90.trans (congrArg some (by kernel_rfl))
 f197 := Tryz.func163.trans (congrArg some (by kernel_rfl))
 f217 := Tryz.func128.trans (congrArg some (by kernel_rfl))
 f224 := Tryz.func223.trans (congrArg some (by kernel_rfl))
 f225 := Tryz.func224.trans (congrArg some (by kernel_rfl))
 f227 := Tryz.func123.trans (congrArg some (by kernel_rfl))
 f228 := Tryz.func162.trans (congrArg some (by kernel_rfl))
 f231 := Tryz.func121.trans (congrArg some (by kernel_rfl))
 f232 := Tryz.func122.trans (congrArg some (by kernel_rfl))
 f233 := Tryz.func124.trans (congrArg some (by kernel_rfl))
 f234 := Tryz.func125.trans (congrArg some (by kernel_rfl))
 f235 := Tryz.func126.trans (congrArg some (by kernel_rfl))
 f236 := Tryz.func127.trans (congrArg some (by kernel_rfl))
 f260 := Tryz.func201.trans (congrArg some (by kernel_rfl))
 f266 := Tryz.func166.trans (congrArg some (by kernel_rfl))
 f271 := Tryz.func165.trans (congrArg some (by kernel_rfl))
 t0 := Tryz.underlying0
 a0 := Tryz.isAgg0
 z0 := Tryz.sizeOf0
 v0 := Tryz.zeroValue0
 t3 := Tryz.underlying3
 a3 := Tryz.isAgg3
 z3 := Tryz.sizeOf3
 v3 := Tryz.zeroValue3
 t4 := Tryz.underlying4
 a4 := Tryz.isAgg4
 z4 := Tryz.sizeOf4
 v4 := Tryz.zeroValue4
 t5 := Tryz.underlying5
 a5 := Tryz.isAgg5
 z5 := Tryz.sizeOf5
 v5 := Tryz.zeroValue5
 t9 := Tryz.underlying9
 a9 := Tryz.isAgg9
 z9 := Tryz.sizeOf9
 v9 := Tryz.zeroValue9
 t21 := Tryz.underlying21
 a21 := Tryz.isAgg21
 z21 := Tryz.sizeOf21
 v21 := Tryz.zeroValue21
 t46 := Tryz.underlying125
 a46 := Tryz.isAgg125
 z46 := Tryz.sizeOf125
 v46 := Tryz.zeroValue125
 t105 := Tryz.underlying200
 a105 := Tryz.isAgg200
 z105 := Tryz.sizeOf200
 v105 := Tryz.zeroValue200
 t116 := Tryz.underlying159
 a116 := Tryz.isAgg159
 z116 := Tryz.sizeOf159
 t117 := Tryz.underlying160
 a117 := Tryz.isAgg160
 z117 := Tryz.sizeOf160
 v117 := Tryz.zeroValue160
 t119 := Tryz.underlying193
 a119 := Tryz.isAgg193
 z119 := Tryz.sizeOf193
 t124 := Tryz.underlying163
 a124 := Tryz.isAgg163
 z124 := Tryz.sizeOf163
 v124 := Tryz.zeroValue163
 t138 := Tryz.underlying195
 a138 := Tryz.isAgg195
 z138 := Tryz.sizeOf195
 v138 := Tryz.zeroValue195
 t139 := Tryz.underlying196
 a139 := Tryz.isAgg196
 z139 := Tryz.sizeOf196
 v139 := Tryz.zeroValue196
 g3 := by kernel_rfl
 g4 := by kernel_rfl }
def Tryz.shSplit_ren : Go.Shelf.Ren := ⟨fun | 146 => 114 | 221 => 152 | 268 => 193 | 138 => 194 | 143 => 195 | 195 => 215 | 197 => 163 | 218 => 216 | 219 => 217 | 260 => 201 | 217 => 128 | 225 => 224 | 224 => 223 | 267 => 228 | 266 => 166 | 314 => 242 | n => n, fun | 9 => 9 | 31 => 41 | 3 => 3 | 4 => 4 | 0 => 0 | 105 => 200 | 21 => 21 | 5 => 5 | 46 => 125 | 119 => 193 | 139 => 196 | 138 => 195 | 146 => 242 | 51 => 139 | n => n, fun | 1 => 3 | 3 => 0 | 4 => 1 | n => n⟩
theorem Tryz.shSplit : Go.Proofs.LaysM.n146 Tryz.prog Tryz.shSplit_ren := {
 mixed := by kernel_rfl
 f138 := Tryz.func194.trans (congrArg some (by kernel_rfl))
 f143 := Tryz.func195.trans (congrArg some (by kernel_rfl))
 f146 := Tryz.func114.trans (congrArg some (by kernel_rfl))
 f195 := Tryz.func215.trans (congrArg some (by kernel_rfl))
 f197 := Tryz.func163.trans (congrArg some (by kernel_rfl))
 f217 := Tryz.func128.trans (congrArg some (by kernel_rfl))
 f218 := Tryz.func216.trans (congrArg some (by kernel_rfl))
 f219 := Tryz.func217.trans (congrArg some (by kernel_rfl))
 f221 := Tryz.func152.trans (congrArg some (by kernel_rfl))
 f224 := Tryz.func223.trans (congrArg some (by kernel_rfl))
 f225 := Tryz.func224.trans (congrArg some (by kernel_rfl))
 f260 := Tryz.func201.trans (congrArg some (by kernel_rfl))
 f266 := Tryz.func166.trans (congrArg some (by kernel_rfl))
 f267 := Tryz.func228.trans (congrArg some (by kernel_rfl))
 f268 := Tryz.func193.trans (congrArg some (by kernel_rfl))
 f314 := Tryz.func242.trans (congrArg some (by kernel_rfl))
 t0 := Tryz.underlying0
 a0 := Tryz.isAgg0
 z0 := Tryz.sizeOf0
 v0 := Tryz.zeroValue0
 t3 := Tryz.underlying3
 a3 := Tryz.isAgg3
 z3 := Tryz.sizeOf3
 v3 := Tryz.zeroValue3
 t4 := Tryz.underlying4
 a4 := Tryz.isAgg4
 z4 := Tryz.sizeOf4
 v4 := Tryz.zeroValue4
 t5 := Tryz.underlying5
 a5 := Tryz.isAgg5
 z5 := Tryz.sizeOf5
 v5 := Tryz.zeroValue5
 t9 := Tryz.underlying9
 a9 := Tryz.isAgg9
 z9 := Tryz.sizeOf9
 v9 := Tryz.zeroValue9
 t21 := Tryz.underlying21
 a21 := Tryz.isAgg21
 z21 := Tryz.sizeOf21
 v21 := Tryz.zeroValue21
 t31 := Tryz.underlying41
 a31 := Tryz.isAgg41
 z31 := Tryz.sizeOf41
 v31 := Tryz.zeroValue41
 t46 := Tryz.underlying125
 a46 := Tryz.isAgg125
 z46 := Tryz.sizeOf125
 v46 := Tryz.zeroValue125
 t51 := Tryz.underlying139
 a51 := Tryz.isAgg139
 z51 := Tryz.sizeOf139
 v51 := Tryz.zeroValue139
 t105 := Tryz.underlying200
 a105 := Tryz.isAgg200
 z105 := Tryz.sizeOf200
 v105 := Tryz.zeroValue200
 t119 := Tryz.underlying193
 a119 := Tryz.isAgg193
 z119 := Tryz.sizeOf193
 t138 := Tryz.underlying195
 a138 := Tryz.isAgg195
 z138 := Tryz.sizeOf195
 v138 := Tryz.zeroValue195
 t139 := Tryz.underlying196
 a139 := Tryz.isAgg196
 z139 := Tryz.sizeOf196
 v139 := Tryz.zeroValue196
 t146 := Tryz.underlying242
 a146 := Tryz.isAgg242
 z146 := Tryz.sizeOf242
 v146 := Tryz.zeroValue242
 g1 := by kernel_rfl
 g3 := by kernel_rfl
 g4 := by kernel_rfl
 i0 := by kernel_rfl
 i3 := by kernel_rfl
 i4 := by kernel_rfl
 i5 := by kernel_rfl
 i9 := by kernel_rfl
 i21 := by kernel_rfl
 i31 := by kernel_rfl
 i46 := by kernel_rfl
 i51 := by kernel_rfl
 i105 := by kernel_rfl
 i138 := by kernel_rfl
 i139 := by kernel_rfl
 i146 := by kernel_rfl
 m1 := by kernel_rfl
 s1_3 := fun w h => Go.Proofs.cell_of_shapedOpen_int (zero := #[.int .i64 0]) (t := 3) h (of_decide_eq_true (by kernel_rfl)) (by kernel_rfl) rfl (by kernel_rfl) (by kernel_rfl) Tryz.underlying3
 m3 := by kernel_rfl
 m4 := by kernel_rfl }
def Tryz.shIndexFunc_ren : Go.Shelf.Ren := ⟨fun | 6 => 144 | n => n, fun | 22 => 26 | 23 => 78 | 25 => 183 | 3 => 3 | 0 => 0 | 4 => 4 | n => n, fun | n => n⟩
theorem Tryz.shIndexFunc : Go.Proofs.SlLaysH0.n6 Tryz.prog Tryz.shIndexFunc_ren := {
 mixed := by kernel_rfl
 f6 := ⟨Tryz.f144.name, by decide, Tryz.func144.trans (congrArg some (by kernel_rfl))⟩
 t0 := Tryz.underlying0
 a0 := Tryz.isAgg0
 z0 := Tryz.sizeOf0
 v0 := Tryz.zeroValue0
 t3 := Tryz.underlying3
 a3 := Tryz.isAgg3
 z3 := Tryz.sizeOf3
 v3 := Tryz.zeroValue3
 t4 := Tryz.underlying4
 a4 := Tryz.isAgg4
 z4 := Tryz.sizeOf4
 v4 := Tryz.zeroValue4
 t22 := Tryz.underlying26
 a22 := Tryz.isAgg26
 z22 := Tryz.sizeOf26
 v22 := Tryz.zeroValue26
 t25 := Tryz.underlying183
 a25 := Tryz.isAgg183
 z25 := Tryz.sizeOf183
 v25 := Tryz.zeroValue183 }
def Tryz.shIndexRow_ren : Go.Shelf.Ren := ⟨fun | 6 => 83 | n => n, fun | 22 => 66 | 23 => 65 | 25 => 116 | 3 => 3 | 0 => 0 | 4 => 4 | n => n, fun | n => n⟩
theorem Tryz.shIndexRow : Go.Proofs.SlLaysH0.n6 Tryz.prog Tryz.shIndexRow_ren := {
 mixed := by kernel_rfl
 f6 := ⟨Tryz.f83.name, by decide, Tryz.func83.trans (congrArg some (by kernel_rfl))⟩
 t0 := Tryz.underlying0
 a0 := Tryz.isAgg0
 z0 := Tryz.sizeOf0
 v0 := Tryz.zeroValue0
 t3 := Tryz.underlying3
 a3 := Tryz.isAgg3
 z3 := Tryz.sizeOf3
 v3 := Tryz.zeroValue3
 t4 := Tryz.underlying4
 a4 := Tryz.isAgg4
 z4 := Tryz.sizeOf4
 v4 := Tryz.zeroValue4
 t22 := Tryz.underlying66
 a22 := Tryz.isAgg66
 z22 := Tryz.sizeOf66
 v22 := Tryz.zeroValue66
 t25 := Tryz.underlying116
 a25 := Tryz.isAgg116
 z25 := Tryz.sizeOf116
 v25 := Tryz.zeroValue116 }
def Tryz.shRepeat_ren : Go.Shelf.Ren := ⟨fun | 105 => 158 | 212 => 198 | 99 => 153 | 165 => 199 | 166 => 171 | 170 => 200 | 169 => 89 | 263 => 219 | 264 => 220 | 206 => 196 | 240 => 120 | 241 => 221 | 276 => 161 | 277 => 233 | n => n, fun | 9 => 9 | 3 => 3 | 4 => 4 | 20 => 20 | 0 => 0 | 46 => 125 | 109 => 228 | 5 => 5 | 72 => 121 | 76 => 206 | 51 => 139 | 146 => 242 | 53 => 225 | 148 => 244 | 70 => 119 | 37 => 82 | 75 => 123 | 127 => 156 | 164 => 197 | 80 => 126 | n => n, fun | n => n⟩
theorem Tryz.shRepeat : Go.Proofs.Lays.n105 Tryz.prog Tryz.shRepeat_ren := {
 mixed := by kernel_rfl
 f99 := Tryz.func153.trans (congrArg some (by kernel_rfl))
 f105 := Tryz.func158.trans (congrArg some (by kernel_rfl))
 f165 := Tryz.func199.trans (congrArg some (by kernel_rfl))
 f166 := Tryz.func171.trans (congrArg some (by kernel_rfl))
 f169 := Tryz.func89.trans (congrArg some (by kernel_rfl))
 f170 := Tryz.func200.trans (congrArg some (by kernel_rfl))
 f206 := Tryz.func196.trans (congrArg some (by kernel_rfl))
 f212 := Tryz.func198.trans (congrArg some (by kernel_rfl))
 f240 := Tryz.func120.trans (congrArg some (by kernel_rfl))
 f241 := Tryz.func221.trans (congrArg some (by kernel_rfl))
 f263 := Tryz.func219.trans (congrArg some (by kernel_rfl))
 f264 := Tryz.func220.trans (congrArg some (by kernel_rfl))
 f276 := Tryz.func161.trans (congrArg some (by kernel_rfl))
 f277 := Tryz.func233.trans (congrArg some (by kernel_rfl))
 t0 := Tryz.underlying0
 a0 := Tryz.isAgg0
 z0 := Tryz.sizeOf0
 v0 := Tryz.zeroValue0
 t3 := Tryz.underlying3
 a3 := Tryz.isAgg3
 z3 := Tryz.sizeOf3
 v3 := Tryz.zeroValue3
 t4 := Tryz.underlying4
 a4 := Tryz.isAgg4
 z4 := Tryz.sizeOf4
 v4 := Tryz.zeroValue4
 t5 := Tryz.underlying5
 a5 := Tryz.isAgg5
 z5 := Tryz.sizeOf5
 v5 := Tryz.zeroValue5
 t9 := Tryz.underlying9
 a9 := Tryz.isAgg9
 z9 := Tryz.sizeOf9
 v9 := Tryz.zeroValue9
 t20 := Tryz.underlying20
 a20 := Tryz.isAgg20
 z20 := Tryz.sizeOf20
 v20 := Tryz.zeroValue20
 t37 := Tryz.underlying82
 a37 := Tryz.isAgg82
 z37 := Tryz.sizeOf82
 v37 := Tryz.zeroValue82
 t46 := Tryz.underlying125
 a46 := Tryz.isAgg125
 z46 := Tryz.sizeOf125
 v46 := Tryz.zeroValue125
 t51 := Tryz.underlying139
 a51 := Tryz.isAgg139
 z51 := Tryz.sizeOf139
 v51 := Tryz.zeroValue139
 t53 := Tryz.underlying225
 a53 := Tryz.isAgg225
 z53 := Tryz.sizeOf225
 v53 := Tryz.zeroValue225
 t70 := Tryz.underlying119
 a70 := Tryz.isAgg119
 z70 := Tryz.sizeOf119
 v70 := Tryz.zeroValue119
 t72 := Tryz.underlying121
 a72 := Tryz.isAgg121
 z72 := Tryz.sizeOf121
 v72 := Tryz.zeroValue121
 t75 := Tryz.underlying123
 a75 := Tryz.isAgg123
 z75 := Tryz.sizeOf123
 v75 := Tryz.zeroValue123
 t76 := Tryz.underlying206
 a76 := Tryz.isAgg206
 z76 := Tryz.sizeOf206
 v76 := Tryz.zeroValue206
 t109 := Tryz.underlying228
 a109 := Tryz.isAgg228
 z109 := Tryz.sizeOf228
 v109 := Tryz.zeroValue228
 t127 := Tryz.underlying156
 a127 := Tryz.isAgg156
 z127 := Tryz.sizeOf156
 v127 := Tryz.zeroValue156
 t146 := Tryz.underlying242
 a146 := Tryz.isAgg242
 z146 := Tryz.sizeOf242
 v146 := Tryz.zeroValue242
 t148 := Tryz.underlying244
 a148 := Tryz.isAgg244
 z148 := Tryz.sizeOf244
 v148 := Tryz.zeroValue244
 t164 := Tryz.underlying197
 a164 := Tryz.isAgg197
 z164 := Tryz.sizeOf197
 v164 := Tryz.zeroValue197 }
end Go.Proofs
namespace Go.Proofs.YtckbnjipecclaaaGreatDoor
open Go.RowKit
structure KeptB (b : Nat) (w w' : World) : Prop where
 os : w'.os = w.os
 tape : w'.tape = w.tape
 output : w'.output = w.output
 size : w.heap.size ≤ w'.heap.size
 block : ∀ k, k < w.heap.size → k ≠ b → kind w k ≠ 5 + 2 → w'.heap[k]? = w.heap[k]?
theorem KeptB.refl (b : Nat) (w : World) : KeptB b w w := ⟨rfl, rfl, rfl, Nat.le_refl _, fun _ _ _ _ => rfl⟩
theorem KeptB.trans {b : Nat} {x y z : World} (h : KeptB b x y) (k : KeptB b y z) : KeptB b x z :=
 ⟨k.os.trans h.os, k.tape.trans h.tape, k.output.trans h.output, Nat.le_trans h.size k.size, fun i hi hb hk => by
  have h1 := h.block i hi hb hk
  have h2 : kind y i = kind x i := by simp [kind, h1]
  exact (k.block i (Nat.lt_of_lt_of_le hi h.size) hb (by rw [h2]; exact hk)).trans h1⟩
theorem KeptB.of {b : Nat} {X : List Nat} {w w' : World} (h : Kept X w w') (hX : ∀ k, k ∈ X → k = b ∨ kind w k = 5 + 2) : KeptB b w w' :=
 ⟨h.os, h.tape, h.output, h.size, fun k hk hb hn => h.block k hk (fun e => by rcases hX k e with g | g; exact hb g; exact hn g)⟩
theorem KeptB.of0 {b : Nat} {w w' : World} (h : Kept [] w w') : KeptB b w w' := .of h (by simp)
theorem KeptB.heap {b : Nat} {w w' : World} (h : KeptB b w w') {k : Nat} {o : Obj} (ho : w.heap[k]? = some o) (hb : k ≠ b) (hk : kind w k ≠ 5 + 2) : w'.heap[k]? = some o :=
 (h.block k (lt_of_block ho) hb hk).trans ho
structure BW (T : Nat) (W : World) (b : Nat) (w : World) (l : List UInt8) : Prop where
 blk : ∃ p v, (p = .pointer none ∨ p = .pointer (some ⟨b, 0, none⟩)) ∧ w.heap[b]? = some (.cells #[p, v] T (0, 0)) ∧ w.ownsRow W.heap.size 5 1 v l.length (l.map bv)
 kept : Kept [b] W w
 lt : b < W.heap.size
theorem BW.stay {T : Nat} {W : World} {b : Nat} {w w' : World} {l : List UInt8} (h : BW T W b w l) (k : Kept [] w w') : BW T W b w' l := by
 obtain ⟨p, v, hp, hb, hr⟩ := h.blk
 exact ⟨⟨p, v, hp, k.heap hb (by simp), row_kept hr k (by simp)⟩, h.kept.then k, h.lt⟩
theorem BW.new {T : Nat} {W : World} {b : Nat} (h : W.heap[b]? = some (.cells #[.pointer none, .slice none 0 0] T (0, 0))) : BW T W b W [] :=
 ⟨⟨_, _, .inl rfl, h, World.ownsRow_nil _ _ _ _⟩, Kept.refl _ _, lt_of_block h⟩
def Lies (T : Nat) : Prop := liesAt Tryz.prog Tryz.prog.depth T (2 / Tryz.prog.cellsOf T) 0 121 1 = true
theorem lies_builder : Lies 121 := by unfold Lies; kernel_rfl
theorem lies_writer : Lies 172 := by unfold Lies; kernel_rfl
theorem shape_of {w : World} {b : Nat} {c : Array Value} {t : Nat} {f : Nat × Nat} (h : w.heap[b]? = some (.cells c t f)) : w.shape? b = some (t, c.size) := by simp [World.shape?, h]
theorem ptr_same (w : World) (b : Nat) : (binOp .neq 119 (.pointer (some ⟨b, 0, none⟩)) (.pointer (some ⟨b, 0, none⟩))).run Tryz.prog w = .ok (.bool false) w := by
 have h1 : (Tryz.prog.info? 121).map (·.size) = some 2 := by kernel_rfl
 obtain ⟨j, hj, _⟩ := Option.map_eq_some_iff.1 h1
 exact Lib.run_neq_ptr_same w _ Tryz.underlying119 hj
theorem to_unsafe {w : World} {b : Nat} {p v : Value} {T : Nat} (hb : w.heap[b]? = some (.cells #[p, v] T (0, 0))) : (convert 119 197 (.pointer (some ⟨b, 0, none⟩))).run Tryz.prog w = .ok (.pointer (some ⟨b, 0, none⟩)) w := by
 have h1 : (Tryz.prog.info? 121).map (·.size) = some 2 := by kernel_rfl
 obtain ⟨j, hj, hs⟩ := Option.map_eq_some_iff.1 h1
 exact Lib.run_to_unsafe w ⟨b, 0, none⟩ Tryz.underlying119 Tryz.underlying197 hj (by rw [hs]; decide) (shape_of hb) (by simp)
theorem from_unsafe {w : World} {b : Nat} {p v : Value} {T : Nat} (hT : Lies T) (hb : w.heap[b]? = some (.cells #[p, v] T (0, 0))) : (convert 197 119 (.pointer (some ⟨b, 0, none⟩))).run Tryz.prog w = .ok (.pointer (some ⟨b, 0, none⟩)) w := by
 have h1 : (Tryz.prog.info? 121).map (·.size) = some 2 := by kernel_rfl
 obtain ⟨j, hj, _⟩ := Option.map_eq_some_iff.1 h1
 exact Lib.run_from_unsafe w ⟨b, 0, none⟩ Tryz.underlying197 Tryz.underlying119 hj (shape_of hb) hT
theorem copyCheck_any {T : Nat} (hT : Lies T) {w : World} {b : Nat} {p v : Value} (hp : p = .pointer none ∨ p = .pointer (some ⟨b, 0, none⟩)) (hb : w.heap[b]? = some (.cells #[p, v] T (0, 0))) :
  Calls Tryz.prog 120 #[.pointer (some ⟨b, 0, none⟩)] w fun e w' => e = .returned (.tuple #[]) ∧ w'.heap[b]? = some (.cells #[.pointer (some ⟨b, 0, none⟩), v] T (0, 0)) ∧ Kept [b] w w' := by
 have HB := qI hb
 have c0 := cell_head (o := 0) (v := p) hb rfl
 have f0 := free_head (o := 0) hb
 have e1 := to_unsafe hb
 have e2 := from_unsafe hT hb
 clear hb
 rcases hp with rfl | rfl
 ·go_enter Tryz.func120, Tryz.ntmps120
  go_wp2_with fail
  rw [run_callFunc_extern Tryz.func161 (by kernel_rfl) (by kernel_rfl) (by kernel_rfl) (e := Extern.AbiNoEscape.same) (by kernel_rfl)]
  rw [Lib.run_noEscape]
  simp only [Result.andThen]
  rw [Oper.upon_value]
  go_wp2_with fail
  go_end0
  exact ⟨rfl, block_setCell HB.o rfl, (Kept.refl _ _).setCell (.inl (by simp)) _⟩
 ·have e3 := ptr_same w b
  go_enter Tryz.func120, Tryz.ntmps120
  go_wp2_with fail
  go_end0
  exact ⟨rfl, HB.o, Kept.refl _ _⟩
theorem tyByte : SliceTy Tryz.prog 82 5 1 1 (.int .u8 0) := ⟨Tryz.underlying82, by kernel_rfl, rfl, by decide⟩
theorem BW.opened {T : Nat} {W : World} {b : Nat} {w : World} {l : List UInt8} (h : BW T W b w l) : ∃ p a c, (p = .pointer none ∨ p = .pointer (some ⟨b, 0, none⟩)) ∧ w.heap[b]? = some (.cells #[p, .slice a l.length c] T (0, 0)) ∧ w.ownsRow W.heap.size 5 1 (.slice a l.length c) l.length (l.map bv) := by
 obtain ⟨p, v, hp, hb, hr⟩ := h.blk
 obtain ⟨a, c, rfl, -, -⟩ := (Slc.of_row hr).form
 exact ⟨p, a, c, hp, hb, hr⟩
theorem BW.wrote {T : Nat} {W : World} {b : Nat} {w w1 w2 : World} {l l' : List UInt8} {a a' : Option Addr} {c n' c' : Nat} (h : BW T W b w l) (hr : w.ownsRow W.heap.size 5 1 (.slice a l.length c) l.length (l.map bv))
  (hb1 : w1.heap[b]? = some (.cells #[.pointer (some ⟨b, 0, none⟩), .slice a l.length c] T (0, 0))) (hk1 : Kept [b] w w1) (hr2 : w2.ownsRow W.heap.size 5 1 (.slice a' n' c') n' (l'.map bv)) (hn : l'.length = n') (hk2 : Kept (Value.slice a l.length c).ownBlock.toList w1 w2) :
  w2.cell? ⟨b, 1, none⟩ = some (.slice a l.length c) ∧ w2.frozen? ⟨b, 1, none⟩ = false ∧ BW T W b (w2.setCell ⟨b, 1, none⟩ (.slice a' n' c')) l' ∧ KeptB b w (w2.setCell ⟨b, 1, none⟩ (.slice a' n' c')) := by
 subst hn
 have hlt := h.lt
 have hnb : b ∉ (Value.slice a l.length c).ownBlock.toList := fun hx => by
  have := (hr.lt _ (Option.mem_toList.1 hx)).1; omega
 have hb2 := hk2.heap hb1 hnb
 have kX : Kept (b :: (Value.slice a l.length c).ownBlock.toList) w (w2.setCell ⟨b, 1, none⟩ (.slice a' l'.length c')) :=
  ((hk1.mono (Y := b :: (Value.slice a l.length c).ownBlock.toList) (by simp)).trans' (hk2.mono (fun i hi => List.mem_cons_of_mem _ hi))).setCell (p := ⟨b, 1, none⟩) (.inl (List.mem_cons_self ..)) _
 refine ⟨cell_head hb2 rfl, free_head hb2, ⟨⟨_, _, .inr rfl, block_setCell hb2 rfl, ?_⟩, ?_, hlt⟩, KeptB.of kX ?_⟩
 ·exact row_kept hr2 ((Kept.refl [b] w2).setCell (p := ⟨b, 1, none⟩) (.inl (by simp)) _) (fun g hg hx => by
   simp at hx; have := (hr2.lt g hg).1; omega)
 ·exact h.kept.trans kX (fun i hi => by
   rcases List.mem_cons.1 hi with rfl | hi
   ·exact .inl (by simp)
   ·exact .inr (hr.lt i (Option.mem_toList.1 hi)).1)
 ·intro k hk
  rcases List.mem_cons.1 hk with rfl | hk
  ·exact .inl rfl
  ·exact .inr (row_kind hr (Option.mem_toList.1 hk))
theorem wbyte_any {T : Nat} (hT : Lies T) {W w : World} {b : Nat} {l : List UInt8} (h : BW T W b w l) (hl : l.length ≤ 100000000) (x : UInt8) :
  Calls Tryz.prog 88 #[.pointer (some ⟨b, 0, none⟩), .int .u8 x.toNat] w fun e w' => e = .returned .nilIface ∧ BW T W b w' (l ++ [x]) ∧ KeptB b w w' := by
 obtain ⟨p, a, c, hp, hb, hr⟩ := h.opened
 have H := qI h
 have HR := qI hr
 have CC := qI (copyCheck_any hT hp hb)
 have Ga : Hid (b < W.heap.size ∧ W.heap.size ≤ w.heap.size) := qI ⟨h.lt, h.kept.size⟩
 clear h hp hb hr
 go_enter Tryz.func88, Tryz.ntmps88
 go_wp2_with (first
  | (go_at_call 120; refine CC.o.mono ?_; rintro e w1 ⟨rfl, hb1, hk1⟩; have c1 := cell_head (o := 1) (v := .slice a l.length c) hb1 rfl; have Gc := qI hb1; have Gb := qI hk1; clear hb1 hk1)
  | (at_builtin; refine wpList_append_slc tyByte (row_kept HR.o (Gb.o.then ((Kept.refl [] w1).alloc (.cells #[.int .u8 x.toNat] 5))) (by intro g hg hx; have h1 := (HR.o.lt g hg).1; have h2 := Ga.o; simp at hx; omega)) (slc_one w1 (bv x) 5 _ rfl) (by simp [bv, Value.oneCell']) (by simp only [maxLen]; omega) (by omega) (by have h1 := Ga.o; have h2 := Gb.o.size; simp; omega) rfl _ _ rfl rfl rfl ?_; intro v2 w2 hown2 hk2 _ hb2; obtain ⟨a2, c2, rfl, -, -⟩ := (Slc.of_row hown2).form; obtain ⟨g1, g2, g3, g4⟩ := BW.wrote (l' := l ++ [x]) H.o HR.o (((Kept.refl [] w1).alloc (.cells #[.int .u8 x.toNat] 5)).heap Gc.o (by simp)) (Gb.o.then ((Kept.refl [] w1).alloc (.cells #[.int .u8 x.toNat] 5))) (by rw [List.map_append]; exact hown2) (by simp) hk2; have G3 := qI g3; have G4 := qI g4; clear hown2 hk2 hb2 g3 g4))
 go_ret
 exact ⟨rfl, G3.o, G4.o⟩
theorem wstring_any {T : Nat} (hT : Lies T) {W w : World} {b : Nat} {l : List UInt8} (h : BW T W b w l) (hl : l.length ≤ 100000000) (s : ByteArray) (hs : s.size ≤ 100000000) :
  Calls Tryz.prog 171 #[.pointer (some ⟨b, 0, none⟩), .string s] w fun e w' => e = .returned (.tuple #[.int .i64 s.size, .nilIface]) ∧ BW T W b w' (l ++ s.data.toList) ∧ KeptB b w w' := by
 obtain ⟨p, a, c, hp, hb, hr⟩ := h.opened
 obtain ⟨i0, hi, hz0, hz1, hz2⟩ := info_parts tyByte.info
 have H := qI h
 have HR := qI hr
 have HI := qI hi
 have HZ := qI (And.intro hz0 (And.intro hz1 hz2))
 have CC := qI (copyCheck_any hT hp hb)
 have Ga : Hid (b < W.heap.size ∧ W.heap.size ≤ w.heap.size) := qI ⟨h.lt, h.kept.size⟩
 have HL : Hid (s.data.toList.length = s.size) := qI (by simp)
 clear h hp hb hr hi hz0 hz1 hz2
 go_enter Tryz.func171, Tryz.ntmps171
 go_wp2_with (first
  | (go_at_call 120; refine CC.o.mono ?_; rintro e w1 ⟨rfl, hb1, hk1⟩; have c1 := cell_head (o := 1) (v := .slice a l.length c) hb1 rfl; have Gc := qI hb1; have Gb := qI hk1; clear hb1 hk1)
  | (at_builtin; refine Lib.wpList_append_own_string _ rfl _ _ 82 9 rfl W.heap.size 5 i0 Tryz.underlying82 Tryz.underlying9 HI.o HZ.o.1 HZ.o.2.1 HZ.o.2.2 (.slice a l.length c) l.length (l.map bv) rfl (row_kept HR.o Gb.o (by intro g hg hx; have h1 := (HR.o.lt g hg).1; have h2 := Ga.o; simp at hx; omega)) s rfl (by simp only [maxLen]; omega) (by omega) (by have h1 := Ga.o; have h2 := Gb.o.size; omega) ?_; intro v2 w2 hown2 hg2 _; obtain ⟨a2, c2, rfl, -, -⟩ := (Slc.of_row hown2).form; obtain ⟨g1, g2, g3, g4⟩ := BW.wrote (l' := l ++ s.data.toList) H.o HR.o Gc.o Gb.o (by rw [List.map_append]; exact hown2) (by rw [List.length_append, HL.o]) ((Kept.refl _ _).grown hg2 (fun k e => .inl (by simp [e]))); have G3 := qI g3; have G4 := qI g4; clear hown2 hg2 g3 g4))
 go_ret2
 exact ⟨rfl, G3.o, G4.o⟩
theorem freeze_kept {w : World} {g : Nat} (n : Nat) : Kept [g] w (w.freeze ⟨g, 0, none⟩ n) := by
 have h := Lib.below_freeze (Below.refl 0 w) (p := ⟨g, 0, none⟩) (Nat.zero_le _) n
 refine ⟨h.os, h.tape, h.output, h.size, fun k hk hx => ?_⟩
 unfold World.freeze
 split
 ·rfl
 ·simp only [Array.getElem?_modify]
  rw [if_neg (by simp at hx; omega)]
theorem bstring_any {T : Nat} {W w : World} {b : Nat} {l : List UInt8} (h : BW T W b w l) (hl : l.length ≤ 100000000) (h0 : l ≠ []) :
  Calls Tryz.prog 89 #[.pointer (some ⟨b, 0, none⟩)] w fun e w' => e = .returned (.string (strB l)) ∧ Kept [b] W w' ∧ KeptB b w w' := by
 obtain ⟨p, a, c, hp, hb, hr⟩ := h.opened
 have Ga : Hid (b < W.heap.size ∧ W.heap.size ≤ w.heap.size) := qI ⟨h.lt, h.kept.size⟩
 have Ge := qI h.kept
 have c1 := cell_head (o := 1) (v := .slice a l.length c) hb rfl
 have hl0 : l.length ≠ 0 := by simpa using h0
 obtain ⟨g, cap, cur, hv, hg, hbg, hnc, hcm, hcs, htake⟩ : ∃ g cap cur, (Value.slice a l.length c) = .slice (some ⟨g, 0, none⟩) l.length cap ∧ W.heap.size ≤ g ∧ w.heap[g]? = some (.cells cur 5 (0, 0)) ∧ l.length ≤ cap ∧ cap ≤ maxLen ∧ cur.size = cap * 1 ∧ cur.toList.take (l.length * 1) = l.map bv := by
  rcases hr.2 with ⟨_, hz⟩ | ⟨g, cap, cur, hv, r1, r2, r3, r4, r5, r6⟩
  ·exact absurd hz hl0
  ·exact ⟨g, cap, cur, hv, r1, r2, r3, r4, r5, r6⟩
 simp only [Value.slice.injEq] at hv
 obtain ⟨rfl, -, rfl⟩ := hv
 have hrow : ∀ j x, l[j]? = some x → w.drew.cell? ((⟨g, 0, none⟩ : Addr).add j) = some (.int .u8 x.toNat) := by
  intro j x hx
  have h2 := (Slc.of_row hr).2
  rcases h2 with ⟨h3, _⟩ | ⟨h3, _⟩ | ⟨g', o', cap', hv', _, _, hrow⟩
  ·cases h3
  ·exact absurd h3 hl0
  ·simp only [Value.slice.injEq, Option.some.injEq, Addr.mk.injEq] at hv'
   obtain ⟨⟨rfl, rfl, -⟩, -, -⟩ := hv'
   exact hrow.adds j (bv x) (by simp [hx])
 have hSD : ∀ W' : World, (Builtin.unsafeSliceData_ #[82] 156 #[.slice (some ⟨g, 0, none⟩) l.length c]).run Tryz.prog W' = .ok (.pointer (some ⟨g, 0, none⟩)) W' := fun W' => Lib.run_unsafeSliceData_row _ _ _ _ _ _ (by omega)
 have hUS : (Builtin.unsafeString_ #[156, 3] 9 #[.pointer (some ⟨g, 0, none⟩), .int .i64 l.length]).run Tryz.prog w.drew = .ok (.string (strB l)) (w.drew.freeze ⟨g, 0, none⟩ l.length) :=
  Lib.run_unsafeString_row w.drew 156 3 9 5 Tryz.underlying156 (by kernel_rfl) g cur.size (by have hg' : w.drew.heap[g]? = some (.cells cur 5 (0, 0)) := hbg; simp [World.shape?, hg']) l h0 (by omega) (by omega) hrow
 have HK : Hid (Kept [g] w (w.drew.freeze ⟨g, 0, none⟩ l.length)) := qI ((Kept.refl [g] w).drew.trans' (freeze_kept l.length))
 have HG : Hid (W.heap.size ≤ g ∧ kind w g = 5 + 2) := qI ⟨hg, kind_cells hbg⟩
 have Gf := qI hSD
 have Gd := qI hUS
 have hgb : b ≠ g := by have := Ga.o; omega
 clear h hp hb hr hbg hnc hcm hcs htake hrow hl0 hSD hUS hg h0
 go_enter Tryz.func89, Tryz.ntmps89
 go_wp2_with fail
 refine wp_region_last' (n := 12) (fun w' : World => w'.cell? ⟨b, 1, none⟩ = some (.slice (some ⟨g, 0, none⟩) l.length c)) 11 (by kernel_rfl) (by kernel_rfl) ?_
 change wpAnyT _ _ _ _ _ _ _ _ _ w.drew
 have hSS : (fun w' : World => w'.cell? ⟨b, 1, none⟩ = some (.slice (some ⟨g, 0, none⟩) l.length c)) w.drew := c1
 clear c1
 revert hSS Gd HK
 generalize w.drew = W2
 intro HK Gd hSS
 refine wpAnyT_start ?_
 intro O R hO hR
 have hQp : ∀ c a (d : Nat) v w, R (.panic c) (a.put (some d) v) w → R (.panic c) a w := by subst hR; exact fun _ _ _ _ _ h => h
 refine wpAnyT_take' (i := 0) (v := ?_) hO rfl rfl (by kernel_rfl) (by kernel_rfl) (by kernel_rfl) (by kernel_rfl) hQp (Or.inl ⟨by kernel_rfl, fun w hSw => ?_⟩) hSS ?_
 rotate_left
 ·go_simp; try with_reducible rfl
 try simp only [zA,zN,zB,zC,zD]
 refine wpAnyT_take' (i := 1) (v := ?_) hO rfl rfl (by kernel_rfl) (by kernel_rfl) (by kernel_rfl) (by kernel_rfl) hQp (Or.inl ⟨by kernel_rfl, fun w hSw => ?_⟩) hSS ?_
 rotate_left
 ·go_simp; try with_reducible rfl
 try simp only [zA,zN,zB,zC,zD]
 refine wpAnyT_take' (i := 2) (v := ?_) hO rfl rfl (by kernel_rfl) (by kernel_rfl) (by kernel_rfl) (by kernel_rfl) hQp (Or.inl ⟨by kernel_rfl, fun w hSw => ?_⟩) hSS ?_
 rotate_left
 ·go_simp; try with_reducible rfl
 try simp only [zA,zN,zB,zC,zD]
 refine wpAnyT_take' (i := 3) (v := ?_) hO rfl rfl (by kernel_rfl) (by kernel_rfl) (by kernel_rfl) (by kernel_rfl) hQp (Or.inl ⟨by kernel_rfl, fun w hSw => ?_⟩) hSS ?_
 rotate_left
 ·go_simp; try with_reducible rfl
 try simp only [zA,zN,zB,zC,zD]
 refine wpAnyT_take' (i := 5) (v := ?_) hO rfl rfl (by kernel_rfl) (by kernel_rfl) (by kernel_rfl) (by kernel_rfl) hQp (Or.inl ⟨by kernel_rfl, fun w hSw => ?_⟩) hSS ?_
 rotate_left
 ·go_simp; try with_reducible rfl
 try simp only [zA,zN,zB,zC,zD]
 refine wpAnyT_take' (i := 6) (v := ?_) hO rfl rfl (by kernel_rfl) (by kernel_rfl) (by kernel_rfl) (by kernel_rfl) hQp (Or.inl ⟨by kernel_rfl, fun w hSw => ?_⟩) hSS ?_
 rotate_left
 ·go_simp; try with_reducible rfl
 try simp only [zA,zN,zB,zC,zD]
 refine wpAnyT_take' (i := 7) (v := ?_) hO rfl rfl (by kernel_rfl) (by kernel_rfl) (by kernel_rfl) (by kernel_rfl) hQp (Or.inl ⟨by kernel_rfl, fun w hSw => ?_⟩) hSS ?_
 rotate_left
 ·go_simp; try with_reducible rfl
 try simp only [zA,zN,zB,zC,zD]
 refine wpAnyT_take' (i := 8) (v := ?_) hO rfl rfl (by kernel_rfl) (by kernel_rfl) (by kernel_rfl) (by kernel_rfl) hQp (Or.inl ⟨by kernel_rfl, fun w hSw => ?_⟩) hSS ?_
 rotate_left
 ·go_simp; try with_reducible rfl
 try simp only [zA,zN,zB,zC,zD]
 refine wpAnyT_take' (i := 9) (v := ?_) hO rfl rfl (by kernel_rfl) (by kernel_rfl) (by kernel_rfl) (by kernel_rfl) hQp (Or.inl ⟨by kernel_rfl, fun w hSw => ?_⟩) hSS ?_
 rotate_left
 ·go_simp; try with_reducible rfl
 try simp only [zA,zN,zB,zC,zD]
 have hSD := Gf.o
 refine wpAnyT_take' (i := 4) (v := ?_) hO rfl rfl (by kernel_rfl) (by kernel_rfl) (by kernel_rfl) (by kernel_rfl) hQp (Or.inl ⟨by kernel_rfl, fun w hSw => ?_⟩) hSS ?_
 rotate_left
 ·go_simp; try with_reducible rfl
 try simp only [zA,zN,zB,zC,zD]
 have hUS := Gd.o
 refine wpAnyT_one' (i := 10) hO rfl (by kernel_rfl) (by kernel_rfl) (fun K hK => ?_)
 go_simp
 have hS2 : (fun w' : World => w'.cell? ⟨b, 1, none⟩ = some (.slice (some ⟨g, 0, none⟩) l.length c)) (W2.freeze ⟨g, 0, none⟩ l.length) := (freeze_kept l.length).cell hSS (by simpa using hgb)
 refine hK _ _ (.inr hS2) ?_
 clear hK K
 try simp only [zA,zN,zB,zC,zD]
 clear hSS
 have hSS := hS2
 clear hS2 hSD hUS
 refine wpAnyT_one' (i := 11) hO rfl (by kernel_rfl) (by kernel_rfl) (fun K hK => ?_)
 go_simp
 refine hK _ _ (.inl rfl) ?_
 clear hK K
 try simp only [zA,zN,zB,zC,zD]
 refine wpAnyT_done' hO (by kernel_rfl) ?_ _
 subst hR
 try clear hQp hO O
 go_wp2_with fail
 go_ret
 refine ⟨rfl, Ge.o.trans HK.o (fun i hi => by simp at hi; subst hi; exact .inr HG.o.1), KeptB.of HK.o (fun i hi => by simp at hi; subst hi; exact .inr HG.o.2)⟩
end Go.Proofs.YtckbnjipecclaaaGreatDoor

/- Parts of one proof, merged: XSh XKM XVP XVU XVW. -/
import Derived.Shelf.Strings.Prefix
import Derived.Shelf.Small.Strs
import Derived.Shelf.Small.Utf8
import Derived.Shelf.Small.Wraps
import Derived.Shelf.Strconv.Itoa3
import Derived.Shelf.Unicode.DecodeAny
import Derived.Shelf.Unicode.ValidAny
import Derived.Shelf.Strings.SlTrimAscii
import Derived.Shelf.Strings.SplitShaped
import Derived.Shelf.Strings.OnBuilder
import Derived.Shelf.Strings.Repeat
import Derived.Shelf.SlicesQ.IndexFunc
import Derived.Shelf.SlGeneric
import Derived.Ground.NamesProg
import Derived.Ground.SlgfProg
import Derived.Test.YtckbnjipecclaaaGreatDoorProg
import Derived.Test.YtckbnjipecclaaaGreatDoorRD
import Derived.Test.YtckbnjipecclaaaGreatDoorRB
import Derived.Lib.SpaceU
import Derived.Lib.DecodeN
import Derived.Lib.ValidLaws
set_option linter.all false
set_option maxHeartbeats 12800000
set_option maxRecDepth 10000
set_option linter.unusedVariables false
set_option linter.unusedSimpArgs false
set_option linter.unnecessarySimpa false
namespace Go.Proofs
open Go.Shelf
def Tryz.shHasPrefix_ren : Go.Shelf.Ren := ⟨fun | 99 => 153 | 206 => 196 | n => n, fun | 9 => 9 | 4 => 4 | 3 => 3 | n => n, fun | n => n⟩
theorem Tryz.shHasPrefix : Go.Proofs.Lays.n99 Tryz.prog Tryz.shHasPrefix_ren := {
 mixed := by kernel_rfl
 f99 := Tryz.func153.trans (congrArg some (by kernel_rfl))
 f206 := Tryz.func196.trans (congrArg some (by kernel_rfl))
 t3 := Tryz.underlying3
 a3 := Tryz.isAgg3
 z3 := Tryz.sizeOf3
 v3 := Tryz.zeroValue3
 t4 := Tryz.underlying4
 a4 := Tryz.isAgg4
 z4 := Tryz.sizeOf4
 v4 := Tryz.zeroValue4
 t9 := Tryz.underlying9
 a9 := Tryz.isAgg9
 z9 := Tryz.sizeOf9
 v9 := Tryz.zeroValue9 }
def Tryz.shIndexByte_ren : Go.Shelf.Ren := ⟨fun | 137 => 92 | 217 => 128 | 266 => 166 | n => n, fun | 9 => 9 | 5 => 5 | 3 => 3 | n => n, fun | n => n⟩
theorem Tryz.shIndexByte : Go.Proofs.Lays.n137 Tryz.prog Tryz.shIndexByte_ren := {
 mixed := by kernel_rfl
 f137 := Tryz.func92.trans (congrArg some (by kernel_rfl))
 f217 := Tryz.func128.trans (congrArg some (by kernel_rfl))
 f266 := Tryz.func166.trans (congrArg some (by kernel_rfl))
 t3 := Tryz.underlying3
 a3 := Tryz.isAgg3
 z3 := Tryz.sizeOf3
 v3 := Tryz.zeroValue3
 t5 := Tryz.underlying5
 a5 := Tryz.isAgg5
 z5 := Tryz.sizeOf5
 v5 := Tryz.zeroValue5
 t9 := Tryz.underlying9
 a9 := Tryz.isAgg9
 z9 := Tryz.sizeOf9
 v9 := Tryz.zeroValue9 }
def Tryz.shFormatBool_ren : Go.Shelf.Ren := ⟨fun | 121 => 172 | 214 => 205 | n => n, fun | 4 => 4 | 9 => 9 | n => n, fun | n => n⟩
theorem Tryz.shFormatBool : Go.Proofs.Lays.n121 Tryz.prog Tryz.shFormatBool_ren := {
 mixed := by kernel_rfl
 f121 := Tryz.func172.trans (congrArg some (by kernel_rfl))
 f214 := Tryz.func205.trans (congrArg some (by kernel_rfl))
 t4 := Tryz.underlying4
 a4 := Tryz.isAgg4
 z4 := Tryz.sizeOf4
 v4 := Tryz.zeroValue4
 t9 := Tryz.underlying9
 a9 := Tryz.isAgg9
 z9 := Tryz.sizeOf9
 v9 := Tryz.zeroValue9 }
def Tryz.shItoa_ren : Go.Shelf.Ren := ⟨fun | 171 => 157 | 243 => 197 | 246 => 218 | 283 => 229 | 284 => 230 | 285 => 231 | 286 => 232 | 129 => 191 | 317 => 243 | 318 => 244 | 319 => 245 | 320 => 246 | 337 => 250 | 338 => 251 | n => n, fun | 3 => 3 | 9 => 9 | 2 => 2 | 4 => 4 | 171 => 251 | 0 => 0 | 53 => 225 | 37 => 82 | 5 => 5 | 173 => 253 | 212 => 262 | 51 => 139 | 20 => 20 | 213 => 263 | 46 => 125 | 232 => 22 | 233 => 267 | n => n, fun | 17 => 4 | 18 => 5 | 19 => 6 | n => n⟩
theorem Tryz.shItoa : Go.Proofs.LaysM.n171 Tryz.prog Tryz.shItoa_ren := {
 mixed := by kernel_rfl
 f129 := Tryz.func191.trans (congrArg some (by kernel_rfl))
 f171 := Tryz.func157.trans (congrArg some (by kernel_rfl))
 f243 := Tryz.func197.trans (congrArg some (by kernel_rfl))
 f246 := Tryz.func218.trans (congrArg some (by kernel_rfl))
 f283 := Tryz.func229.trans (congrArg some (by kernel_rfl))
 f284 := Tryz.func230.trans (congrArg some (by kernel_rfl))
 f285 := Tryz.func231.trans (congrArg some (by kernel_rfl))
 f286 := Tryz.func232.trans (congrArg some (by kernel_rfl))
 f317 := Tryz.func243.trans (congrArg some (by kernel_rfl))
 f318 := Tryz.func244.trans (congrArg some (by kernel_rfl))
 f319 := Tryz.func245.trans (congrArg some (by kernel_rfl))
 f320 := Tryz.func246.trans (congrArg some (by kernel_rfl))
 f337 := Tryz.func250.trans (congrArg some (by kernel_rfl))
 f338 := Tryz.func251.trans (congrArg some (by kernel_rfl))
 t0 := Tryz.underlying0
 a0 := Tryz.isAgg0
 z0 := Tryz.sizeOf0
 v0 := Tryz.zeroValue0
 t2 := Tryz.underlying2
 a2 := Tryz.isAgg2
 z2 := Tryz.sizeOf2
 v2 := Tryz.zeroValue2
 t3 := Tryz.underlying3
 a3 := Tryz.isAgg3
 z3 := Tryz.sizeOf3
 v3 := Tryz.zeroValue3
 t4 := Tryz.underlying4
 a4 := Tryz.isAgg4
 z4 := Tryz.sizeOf4
 v4 := Tryz.zeroValue4
 t5 := Tryz.underlying5
 a5 := Tryz.isAgg5
 z5 := Tryz.sizeOf5
 v5 := Tryz.zeroValue5
 t9 := Tryz.underlying9
 a9 := Tryz.isAgg9
 z9 := Tryz.sizeOf9
 v9 := Tryz.zeroValue9
 t20 := Tryz.underlying20
 a20 := Tryz.isAgg20
 z20 := Tryz.sizeOf20
 v20 := Tryz.zeroValue20
 t37 := Tryz.underlying82
 a37 := Tryz.isAgg82
 z37 := Tryz.sizeOf82
 v37 := Tryz.zeroValue82
 t46 := Tryz.underlying125
 a46 := Tryz.isAgg125
 z46 := Tryz.sizeOf125
 v46 := Tryz.zeroValue125
 t51 := Tryz.underlying139
 a51 := Tryz.isAgg139
 z51 := Tryz.sizeOf139
 v51 := Tryz.zeroValue139
 t53 := Tryz.underlying225
 a53 := Tryz.isAgg225
 z53 := Tryz.sizeOf225
 v53 := Tryz.zeroValue225
 t171 := Tryz.underlying251
 a171 := Tryz.isAgg251
 z171 := Tryz.sizeOf251
 v171 := Tryz.zeroValue251
 t173 := Tryz.underlying253
 a173 := Tryz.isAgg253
 z173 := Tryz.sizeOf253
 v173 := Tryz.zeroValue253
 t212 := Tryz.underlying262
 a212 := Tryz.isAgg262
 z212 := Tryz.sizeOf262
 v212 := Tryz.zeroValue262
 t213 := Tryz.underlying263
 a213 := Tryz.isAgg263
 z213 := Tryz.sizeOf263
 t232 := Tryz.underlying22
 a232 := Tryz.isAgg22
 z232 := Tryz.sizeOf22
 v232 := Tryz.zeroValue22
 t233 := Tryz.underlying267
 a233 := Tryz.isAgg267
 z233 := Tryz.sizeOf267
 v233 := Tryz.zeroValue267
 g17 := by kernel_rfl
 g18 := by kernel_rfl
 g19 := by kernel_rfl
 i0 := by kernel_rfl
 i2 := by kernel_rfl
 i3 := by kernel_rfl
 i4 := by kernel_rfl
 i5 := by kernel_rfl
 i9 := by kernel_rfl
 i20 := by kernel_rfl
 i37 := by kernel_rfl
 i46 := by kernel_rfl
 i51 := by kernel_rfl
 i53 := by kernel_rfl
 i171 := by kernel_rfl
 i173 := by kernel_rfl
 i212 := by kernel_rfl
 i232 := by kernel_rfl
 i233 := by kernel_rfl
 m17 := by kernel_rfl
 m18 := by kernel_rfl
 m19 := by kernel_rfl }
def Tryz.shDecode_ren : Go.Shelf.Ren := ⟨fun | 197 => 163 | 260 => 201 | n => n, fun | 9 => 9 | 21 => 21 | 3 => 3 | 4 => 4 | 5 => 5 | 105 => 200 | 119 => 193 | 0 => 0 | 46 => 125 | 139 => 196 | 138 => 195 | n => n, fun | 3 => 0 | 4 => 1 | n => n⟩
theorem Tryz.shDecode : Go.Proofs.Lays.n197 Tryz.prog Tryz.shDecode_ren := {
 mixed := by kernel_rfl
 f197 := Tryz.func163.trans (congrArg some (by kernel_rfl))
 f260 := Tryz.func201.trans (congrArg some (by kernel_rfl))
 t0 := Tryz.underlying0
 a0 := Tryz.isAgg0
 z0 := Tryz.sizeOf0
 v0 := Tryz.zeroValue0
 t3 := Tryz.underlying3
 a3 := Tryz.isAgg3
 z3 := Tryz.sizeOf3
 v3 := Tryz.zeroValue3
 t4 := Tryz.underlying4
 a4 := Tryz.isAgg4
 z4 := Tryz.sizeOf4
 v4 := Tryz.zeroValue4
 t5 := Tryz.underlying5
 a5 := Tryz.isAgg5
 z5 := Tryz.sizeOf5
 v5 := Tryz.zeroValue5
 t9 := Tryz.underlying9
 a9 := Tryz.isAgg9
 z9 := Tryz.sizeOf9
 v9 := Tryz.zeroValue9
 t21 := Tryz.underlying21
 a21 := Tryz.isAgg21
 z21 := Tryz.sizeOf21
 v21 := Tryz.zeroValue21
 t46 := Tryz.underlying125
 a46 := Tryz.isAgg125
 z46 := Tryz.sizeOf125
 v46 := Tryz.zeroValue125
 t105 := Tryz.underlying200
 a105 := Tryz.isAgg200
 z105 := Tryz.sizeOf200
 v105 := Tryz.zeroValue200
 t119 := Tryz.underlying193
 a119 := Tryz.isAgg193
 z119 := Tryz.sizeOf193
 t138 := Tryz.underlying195
 a138 := Tryz.isAgg195
 z138 := Tryz.sizeOf195
 v138 := Tryz.zeroValue195
 t139 := Tryz.underlying196
 a139 := Tryz.isAgg196
 z139 := Tryz.sizeOf196
 v139 := Tryz.zeroValue196
 g3 := by kernel_rfl
 g4 := by kernel_rfl }
def Tryz.shValid_ren : Go.Shelf.Ren := ⟨fun | 196 => 118 | 259 => 159 | n => n, fun | 9 => 9 | 4 => 4 | 3 => 3 | 5 => 5 | 12 => 12 | 119 => 193 | 0 => 0 | 46 => 125 | 139 => 196 | 138 => 195 | 53 => 225 | n => n, fun | 3 => 0 | 4 => 1 | n => n⟩
theorem Tryz.shValid : Go.Proofs.Lays.n196 Tryz.prog Tryz.shValid_ren := {
 mixed := by kernel_rfl
 f196 := Tryz.func118.trans (congrArg some (by kernel_rfl))
 f259 := Tryz.func159.trans (congrArg some (by kernel_rfl))
 t0 := Tryz.underlying0
 a0 := Tryz.isAgg0
 z0 := Tryz.sizeOf0
 v0 := Tryz.zeroValue0
 t3 := Tryz.underlying3
 a3 := Tryz.isAgg3
 z3 := Tryz.sizeOf3
 v3 := Tryz.zeroValue3
 t4 := Tryz.underlying4
 a4 := Tryz.isAgg4
 z4 := Tryz.sizeOf4
 v4 := Tryz.zeroValue4
 t5 := Tryz.underlying5
 a5 := Tryz.isAgg5
 z5 := Tryz.sizeOf5
 v5 := Tryz.zeroValue5
 t9 := Tryz.underlying9
 a9 := Tryz.isAgg9
 z9 := Tryz.sizeOf9
 v9 := Tryz.zeroValue9
 t12 := Tryz.underlying12
 a12 := Tryz.isAgg12
 z12 := Tryz.sizeOf12
 v12 := Tryz.zeroValue12
 t46 := Tryz.underlying125
 a46 := Tryz.isAgg125
 z46 := Tryz.sizeOf125
 v46 := Tryz.zeroValue125
 t53 := Tryz.underlying225
 a53 := Tryz.isAgg225
 z53 := Tryz.sizeOf225
 v53 := Tryz.zeroValue225
 t119 := Tryz.underlying193
 a119 := Tryz.isAgg193
 z119 := Tryz.sizeOf193
 t138 := Tryz.underlying195
 a138 := Tryz.isAgg195
 z138 := Tryz.sizeOf195
 v138 := Tryz.zeroValue195
 t139 := Tryz.underlying196
 a139 := Tryz.isAgg196
 z139 := Tryz.sizeOf196
 v139 := Tryz.zeroValue196
 g3 := by kernel_rfl
 g4 := by kernel_rfl }
def Tryz.shTrim_ren : Go.Shelf.Ren := ⟨fun | 160 => 90 | 232 => 122 | 231 => 121 | 227 => 123 | 234 => 125 | 233 => 124 | 236 => 127 | 235 => 126 | 228 => 162 | 271 => 165 | 151 => 164 | 197 => 163 | 120 => 203 | 152 => 202 | 260 => 201 | 137 => 92 | 119 => 222 | 224 => 223 | 225 => 224 | 217 => 128 | 266 => 166 | n => n, fun | 9 => 9 | 4 => 4 | 3 => 3 | 5 => 5 | 117 => 160 | 116 => 159 | 0 => 0 | 124 => 163 | 21 => 21 | 105 => 200 | 46 => 125 | 119 => 193 | 139 => 196 | 138 => 195 | n => n, fun | 3 => 0 | 4 => 1 | n => n⟩
theorem Tryz.shTrim : Go.Proofs.Lays.n160 Tryz.prog Tryz.shTrim_ren := {
 mixed := by kernel_rfl
 f119 := Tryz.func222.trans (congrArg some (by kernel_rfl))
 f120 := Tryz.func203.trans (congrArg some (by kernel_rfl))
 f137 := Tryz.func92.trans (congrArg some (by kernel_rfl))
 f151 := Tryz.func164.trans (congrArg some (by kernel_rfl))
 f152 := Tryz.func202.trans (congrArg some (by kernel_rfl))
 f160 := Tryz.func90.trans (congrArg some (by kernel_rfl))
 f197 := Tryz.func163.trans (congrArg some (by kernel_rfl))
 f217 := Tryz.func128.trans (congrArg some (by kernel_rfl))
 f224 := Tryz.func223.trans (congrArg some (by kernel_rfl))
 f225 := Tryz.func224.trans (congrArg some (by kernel_rfl))
 f227 := Tryz.func123.trans (congrArg some (by kernel_rfl))
 f228 := Tryz.func162.trans (congrArg some (by kernel_rfl))
 f231 := Tryz.func121.trans (congrArg some (by kernel_rfl))
 f232 := Tryz.func122.trans (congrArg some (by kernel_rfl))
 f233 := Tryz.func124.trans (congrArg some (by kernel_rfl))
 f234 := Tryz.func125.trans (congrArg some (by kernel_rfl))
 f235 := Tryz.func126.trans (congrArg some (by kernel_rfl))
 f236 := Tryz.func127.trans (congrArg some (by kernel_rfl))
 f260 := Tryz.func201.trans (congrArg some (by kernel_rfl))
 f266 := Tryz.func166.trans (congrArg some (by kernel_rfl))
 f271 := Tryz.func165.trans (congrArg some (by kernel_rfl))
 t0 := Tryz.underlying0
 a0 := Tryz.isAgg0
 z0 := Tryz.sizeOf0
 v0 := Tryz.zeroValue0
 t3 := Tryz.underlying3
 a3 := Tryz.isAgg3
 z3 := Tryz.sizeOf3
 v3 := Tryz.zeroValue3
 t4 := Tryz.underlying4
 a4 := Tryz.isAgg4
 z4 := Tryz.sizeOf4
 v4 := Tryz.zeroValue4
 t5 := Tryz.underlying5
 a5 := Tryz.isAgg5
 z5 := Tryz.sizeOf5
 v5 := Tryz.zeroValue5
 t9 := Tryz.underlying9
 a9 := Tryz.isAgg9
 z9 := Tryz.sizeOf9
 v9 := Tryz.zeroValue9
 t21 := Tryz.underlying21
 a21 := Tryz.isAgg21
 z21 := Tryz.sizeOf21
 v21 := Tryz.zeroValue21
 t46 := Tryz.underlying125
 a46 := Tryz.isAgg125
 z46 := Tryz.sizeOf125
 v46 := Tryz.zeroValue125
 t105 := Tryz.underlying200
 a105 := Tryz.isAgg200
 z105 := Tryz.sizeOf200
 v105 := Tryz.zeroValue200
 t116 := Tryz.underlying159
 a116 := Tryz.isAgg159
 z116 := Tryz.sizeOf159
 t117 := Tryz.underlying160
 a117 := Tryz.isAgg160
 z117 := Tryz.sizeOf160
 v117 := Tryz.zeroValue160
 t119 := Tryz.underlying193
 a119 := Tryz.isAgg193
 z119 := Tryz.sizeOf193
 t124 := Tryz.underlying163
 a124 := Tryz.isAgg163
 z124 := Tryz.sizeOf163
 v124 := Tryz.zeroValue163
 t138 := Tryz.underlying195
 a138 := Tryz.isAgg195
 z138 := Tryz.sizeOf195
 v138 := Tryz.zeroValue195
 t139 := Tryz.underlying196
 a139 := Tryz.isAgg196
 z139 := Tryz.sizeOf196
 v139 := Tryz.zeroValue196
 g3 := by kernel_rfl
 g4 := by kernel_rfl }
def Tryz.shSplit_ren : Go.Shelf.Ren := ⟨fun | 146 => 114 | 221 => 152 | 268 => 193 | 138 => 194 | 143 => 195 | 195 => 215 | 197 => 163 | 218 => 216 | 219 => 217 | 260 => 201 | 217 => 128 | 225 => 224 | 224 => 223 | 267 => 228 | 266 => 166 | 314 => 242 | n => n, fun | 9 => 9 | 31 => 41 | 3 => 3 | 4 => 4 | 0 => 0 | 105 => 200 | 21 => 21 | 5 => 5 | 46 => 125 | 119 => 193 | 139 => 196 | 138 => 195 | 146 => 242 | 51 => 139 | n => n, fun | 1 => 3 | 3 => 0 | 4 => 1 | n => n⟩
theorem Tryz.shSplit : Go.Proofs.LaysM.n146 Tryz.prog Tryz.shSplit_ren := {
 mixed := by kernel_rfl
 f138 := Tryz.func194.trans (congrArg some (by kernel_rfl))
 f143 := Tryz.func195.trans (congrArg some (by kernel_rfl))
 f146 := Tryz.func114.trans (congrArg some (by kernel_rfl))
 f195 := Tryz.func215.trans (congrArg some (by kernel_rfl))
 f197 := Tryz.func163.trans (congrArg some (by kernel_rfl))
 f217 := Tryz.func128.trans (congrArg some (by kernel_rfl))
 f218 := Tryz.func216.trans (congrArg some (by kernel_rfl))
 f219 := Tryz.func217.trans (congrArg some (by kernel_rfl))
 f221 := Tryz.func152.trans (congrArg some (by kernel_rfl))
 f224 := Tryz.func223.trans (congrArg some (by kernel_rfl))
 f225 := Tryz.func224.trans (congrArg some (by kernel_rfl))
 f260 := Tryz.func201.trans (congrArg some (by kernel_rfl))
 f266 := Tryz.func166.trans (congrArg some (by kernel_rfl))
 f267 := Tryz.func228.trans (congrArg some (by kernel_rfl))
 f268 := Tryz.func193.trans (congrArg some (by kernel_rfl))
 f314 := Tryz.func242.trans (congrArg some (by kernel_rfl))
 t0 := Tryz.underlying0
 a0 := Tryz.isAgg0
 z0 := Tryz.sizeOf0
 v0 := Tryz.zeroValue0
 t3 := Tryz.underlying3
 a3 := Tryz.isAgg3
 z3 := Tryz.sizeOf3
 v3 := Tryz.zeroValue3
 t4 := Tryz.underlying4
 a4 := Tryz.isAgg4
 z4 := Tryz.sizeOf4
 v4 := Tryz.zeroValue4
 t5 := Tryz.underlying5
 a5 := Tryz.isAgg5
 z5 := Tryz.sizeOf5
 v5 := Tryz.zeroValue5
 t9 := Tryz.underlying9
 a9 := Tryz.isAgg9
 z9 := Tryz.sizeOf9
 v9 := Tryz.zeroValue9
 t21 := Tryz.underlying21
 a21 := Tryz.isAgg21
 z21 := Tryz.sizeOf21
 v21 := Tryz.zeroValue21
 t31 := Tryz.underlying41
 a31 := Tryz.isAgg41
 z31 := Tryz.sizeOf41
 v31 := Tryz.zeroValue41
 t46 := Tryz.underlying125
 a46 := Tryz.isAgg125
 z46 := Tryz.sizeOf125
 v46 := Tryz.zeroValue125
 t51 := Tryz.underlying139
 a51 := Tryz.isAgg139
 z51 := Tryz.sizeOf139
 v51 := Tryz.zeroValue139
 t105 := Tryz.underlying200
 a105 := Tryz.isAgg200
 z105 := Tryz.sizeOf200
 v105 := Tryz.zeroValue200
 t119 := Tryz.underlying193
 a119 := Tryz.isAgg193
 z119 := Tryz.sizeOf193
 t138 := Tryz.underlying195
 a138 := Tryz.isAgg195
 z138 := Tryz.sizeOf195
 v138 := Tryz.zeroValue195
 t139 := Tryz.underlying196
 a139 := Tryz.isAgg196
 z139 := Tryz.sizeOf196
 v139 := Tryz.zeroValue196
 t146 := Tryz.underlying242
 a146 := Tryz.isAgg242
 z146 := Tryz.sizeOf242
 v146 := Tryz.zeroValue242
 g1 := by kernel_rfl
 g3 := by kernel_rfl
 g4 := by kernel_rfl
 i0 := by kernel_rfl
 i3 := by kernel_rfl
 i4 := by kernel_rfl
 i5 := by kernel_rfl
 i9 := by kernel_rfl
 i21 := by kernel_rfl
 i31 := by kernel_rfl
 i46 := by kernel_rfl
 i51 := by kernel_rfl
 i105 := by kernel_rfl
 i138 := by kernel_rfl
 i139 := by kernel_rfl
 i146 := by kernel_rfl
 m1 := by kernel_rfl
 s1_3 := fun w h => Go.Proofs.cell_of_shapedOpen_int (zero := #[.int .i64 0]) (t := 3) h (of_decide_eq_true (by kernel_rfl)) (by kernel_rfl) rfl (by kernel_rfl) (by kernel_rfl) Tryz.underlying3
 m3 := by kernel_rfl
 m4 := by kernel_rfl }
def Tryz.shIndexFunc_ren : Go.Shelf.Ren := ⟨fun | 6 => 144 | n => n, fun | 22 => 26 | 23 => 78 | 25 => 183 | 3 => 3 | 0 => 0 | 4 => 4 | n => n, fun | n => n⟩
theorem Tryz.shIndexFunc : Go.Proofs.SlLaysH0.n6 Tryz.prog Tryz.shIndexFunc_ren := {
 mixed := by kernel_rfl
 f6 := ⟨Tryz.f144.name, by decide, Tryz.func144.trans (congrArg some (by kernel_rfl))⟩
 t0 := Tryz.underlying0
 a0 := Tryz.isAgg0
 z0 := Tryz.sizeOf0
 v0 := Tryz.zeroValue0
 t3 := Tryz.underlying3
 a3 := Tryz.isAgg3
 z3 := Tryz.sizeOf3
 v3 := Tryz.zeroValue3
 t4 := Tryz.underlying4
 a4 := Tryz.isAgg4
 z4 := Tryz.sizeOf4
 v4 := Tryz.zeroValue4
 t22 := Tryz.underlying26
 a22 := Tryz.isAgg26
 z22 := Tryz.sizeOf26
 v22 := Tryz.zeroValue26
 t25 := Tryz.underlying183
 a25 := Tryz.isAgg183
 z25 := Tryz.sizeOf183
 v25 := Tryz.zeroValue183 }
def Tryz.shIndexRow_ren : Go.Shelf.Ren := ⟨fun | 6 => 83 | n => n, fun | 22 => 66 | 23 => 65 | 25 => 116 | 3 => 3 | 0 => 0 | 4 => 4 | n => n, fun | n => n⟩
theorem Tryz.shIndexRow : Go.Proofs.SlLaysH0.n6 Tryz.prog Tryz.shIndexRow_ren := {
 mixed := by kernel_rfl
 f6 := ⟨Tryz.f83.name, by decide, Tryz.func83.trans (congrArg some (by kernel_rfl))⟩
 t0 := Tryz.underlying0
 a0 := Tryz.isAgg0
 z0 := Tryz.sizeOf0
 v0 := Tryz.zeroValue0
 t3 := Tryz.underlying3
 a3 := Tryz.isAgg3
 z3 := Tryz.sizeOf3
 v3 := Tryz.zeroValue3
 t4 := Tryz.underlying4
 a4 := Tryz.isAgg4
 z4 := Tryz.sizeOf4
 v4 := Tryz.zeroValue4
 t22 := Tryz.underlying66
 a22 := Tryz.isAgg66
 z22 := Tryz.sizeOf66
 v22 := Tryz.zeroValue66
 t25 := Tryz.underlying116
 a25 := Tryz.isAgg116
 z25 := Tryz.sizeOf116
 v25 := Tryz.zeroValue116 }
def Tryz.shRepeat_ren : Go.Shelf.Ren := ⟨fun | 105 => 158 | 212 => 198 | 99 => 153 | 165 => 199 | 166 => 171 | 170 => 200 | 169 => 89 | 263 => 219 | 264 => 220 | 206 => 196 | 240 => 120 | 241 => 221 | 276 => 161 | 277 => 233 | n => n, fun | 9 => 9 | 3 => 3 | 4 => 4 | 20 => 20 | 0 => 0 | 46 => 125 | 109 => 228 | 5 => 5 | 72 => 121 | 76 => 206 | 51 => 139 | 146 => 242 | 53 => 225 | 148 => 244 | 70 => 119 | 37 => 82 | 75 => 123 | 127 => 156 | 164 => 197 | 80 => 126 | n => n, fun | n => n⟩
theorem Tryz.shRepeat : Go.Proofs.Lays.n105 Tryz.prog Tryz.shRepeat_ren := {
 mixed := by kernel_rfl
 f99 := Tryz.func153.trans (congrArg some (by kernel_rfl))
 f105 := Tryz.func158.trans (congrArg some (by kernel_rfl))
 f165 := Tryz.func199.trans (congrArg some (by kernel_rfl))
 f166 := Tryz.func171.trans (congrArg some (by kernel_rfl))
 f169 := Tryz.func89.trans (congrArg some (by kernel_rfl))
 f170 := Tryz.func200.trans (congrArg some (by kernel_rfl))
 f206 := Tryz.func196.trans (congrArg some (by kernel_rfl))
 f212 := Tryz.func198.trans (congrArg some (by kernel_rfl))
 f240 := Tryz.func120.trans (congrArg some (by kernel_rfl))
 f241 := Tryz.func221.trans (congrArg some (by kernel_rfl))
 f263 := Tryz.func219.trans (congrArg some (by kernel_rfl))
 f264 := Tryz.func220.trans (congrArg some (by kernel_rfl))
 f276 := Tryz.func161.trans (congrArg some (by kernel_rfl))
 f277 := Tryz.func233.trans (congrArg some (by kernel_rfl))
 t0 := Tryz.underlying0
 a0 := Tryz.isAgg0
 z0 := Tryz.sizeOf0
 v0 := Tryz.zeroValue0
 t3 := Tryz.underlying3
 a3 := Tryz.isAgg3
 z3 := Tryz.sizeOf3
 v3 := Tryz.zeroValue3
 t4 := Tryz.underlying4
 a4 := Tryz.isAgg4
 z4 := Tryz.sizeOf4
 v4 := Tryz.zeroValue4
 t5 := Tryz.underlying5
 a5 := Tryz.isAgg5
 z5 := Tryz.sizeOf5
 v5 := Tryz.zeroValue5
 t9 := Tryz.underlying9
 a9 := Tryz.isAgg9
 z9 := Tryz.sizeOf9
 v9 := Tryz.zeroValue9
 t20 := Tryz.underlying20
 a20 := Tryz.isAgg20
 z20 := Tryz.sizeOf20
 v20 := Tryz.zeroValue20
 t37 := Tryz.underlying82
 a37 := Tryz.isAgg82
 z37 := Tryz.sizeOf82
 v37 := Tryz.zeroValue82
 t46 := Tryz.underlying125
 a46 := Tryz.isAgg125
 z46 := Tryz.sizeOf125
 v46 := Tryz.zeroValue125
 t51 := Tryz.underlying139
 a51 := Tryz.isAgg139
 z51 := Tryz.sizeOf139
 v51 := Tryz.zeroValue139
 t53 := Tryz.underlying225
 a53 := Tryz.isAgg225
 z53 := Tryz.sizeOf225
 v53 := Tryz.zeroValue225
 t70 := Tryz.underlying119
 a70 := Tryz.isAgg119
 z70 := Tryz.sizeOf119
 v70 := Tryz.zeroValue119
 t72 := Tryz.underlying121
 a72 := Tryz.isAgg121
 z72 := Tryz.sizeOf121
 v72 := Tryz.zeroValue121
 t75 := Tryz.underlying123
 a75 := Tryz.isAgg123
 z75 := Tryz.sizeOf123
 v75 := Tryz.zeroValue123
 t76 := Tryz.underlying206
 a76 := Tryz.isAgg206
 z76 := Tryz.sizeOf206
 v76 := Tryz.zeroValue206
 t109 := Tryz.underlying228
 a109 := Tryz.isAgg228
 z109 := Tryz.sizeOf228
 v109 := Tryz.zeroValue228
 t127 := Tryz.underlying156
 a127 := Tryz.isAgg156
 z127 := Tryz.sizeOf156
 v127 := Tryz.zeroValue156
 t146 := Tryz.underlying242
 a146 := Tryz.isAgg242
 z146 := Tryz.sizeOf242
 v146 := Tryz.zeroValue242
 t148 := Tryz.underlying244
 a148 := Tryz.isAgg244
 z148 := Tryz.sizeOf244
 v148 := Tryz.zeroValue244
 t164 := Tryz.underlying197
 a164 := Tryz.isAgg197
 z164 := Tryz.sizeOf197
 v164 := Tryz.zeroValue197 }
end Go.Proofs
namespace Go.Proofs.YtckbnjipecclaaaGreatDoor
open Go.RowKit
open Go.Sort (grow flatK size_flatK get_flatK putRowK HoldsK)
theorem bytesLess_eq : ∀ (l m : List UInt8), Op.bytesLess l m = decide (l < m)
 | [], [] => by simp [Op.bytesLess]
 | _ :: _, [] => by simp [Op.bytesLess]
 | [], _ :: _ => by simp [Op.bytesLess]
 | a :: x, b :: y => by
  have ih := bytesLess_eq x y
  unfold Op.bytesLess
  rw [ih, Bool.eq_iff_iff]
  simp only [Bool.or_eq_true, Bool.and_eq_true, decide_eq_true_eq, beq_iff_eq, List.cons_lt_cons_iff]
theorem All2.perm {α β : Type} {R : α → β → Prop} : ∀ {xs xs' : List α} {ys : List β}, All2 R xs ys → xs'.Perm xs → ∃ ys', ys'.Perm ys ∧ All2 R xs' ys' := by
 intro xs xs' ys h hp
 induction hp generalizing ys with
 | nil => exact ⟨ys, List.Perm.refl _, h⟩
 | cons x _ ih =>
  match ys, h with
  | [], h => exact absurd h.1 (by simp)
  | y :: ys, h =>
   obtain ⟨zs, h1, h2⟩ := ih (ys := ys) ⟨by simpa using h.1, fun j a b ha hb => h.2 (j + 1) a b (by simpa using ha) (by simpa using hb)⟩
   exact ⟨y :: zs, h1.cons y, h2.cons (h.2 0 _ _ rfl rfl)⟩
 | swap x z l =>
  match ys, h with
  | [], h => exact absurd h.1 (by simp)
  | [_], h => exact absurd h.1 (by simp)
  | y1 :: y2 :: ys, h =>
   refine ⟨y2 :: y1 :: ys, List.Perm.swap .., ?_⟩
   have h0 : All2 R l ys := ⟨by simpa using h.1, fun j a b ha hb => h.2 (j + 2) a b (by simpa using ha) (by simpa using hb)⟩
   exact All2.cons (h.2 1 _ _ rfl rfl) (All2.cons (h.2 0 _ _ rfl rfl) h0)
 | trans _ _ ih1 ih2 =>
  obtain ⟨z1, p1, h1⟩ := ih2 h
  obtain ⟨z2, p2, h2⟩ := ih1 h1
  exact ⟨z2, p2.trans p1, h2⟩
theorem flat_set {size : Nat} (ls : List (List Value)) (i : Nat) (c : List Value) (h : ∀ x, x ∈ ls → x.length = size) (hc : c.length = size) (j : Nat) :
  (ls.set i c).flatten[j]? = if i < ls.length ∧ i * size ≤ j ∧ j < i * size + size then c[j - i * size]? else ls.flatten[j]? := by
 induction ls generalizing i j with
 | nil => simp
 | cons x ls ih =>
  have hx := h x (List.mem_cons_self ..)
  cases i with
  | zero =>
   simp only [List.set_cons_zero, List.flatten_cons, Nat.zero_mul, Nat.zero_le, true_and, Nat.zero_add, Nat.sub_zero, List.length_cons, Nat.zero_lt_succ]
   by_cases hj : j < size
   ·rw [if_pos hj, List.getElem?_append_left (by omega)]
   ·rw [if_neg hj, List.getElem?_append_right (by omega), List.getElem?_append_right (by omega), hc, hx]
  | succ i =>
   simp only [List.set_cons_succ, List.flatten_cons, List.length_cons]
   have e : (i + 1) * size = i * size + size := by rw [Nat.add_mul, Nat.one_mul]
   by_cases hj : j < size
   ·rw [List.getElem?_append_left (by omega), List.getElem?_append_left (by omega), if_neg (by omega)]
   ·rw [List.getElem?_append_right (by omega), List.getElem?_append_right (by omega), ih i (fun y hy => h y (List.mem_cons_of_mem _ hy)), hx, e]
    by_cases q : i < ls.length ∧ i * size ≤ j - size ∧ j - size < i * size + size
    ·rw [if_pos q, if_pos (by omega), show j - (i * size + size) = j - size - i * size by omega]
    ·rw [if_neg q, if_neg (by omega)]
theorem row_stored {w : World} {base e size n : Nat} {v : Value} {ls : List (List Value)} {i g : Nat} {c : List Value} (h : w.ownsRow base e size v n ls.flatten) (hls : ∀ x, x ∈ ls → x.length = size) (hv : v.ownBlock = some g) (hn : ls.length = n) (hi : i < n) (hc : c.length = size) :
  (w.setCells g (i * size) c).ownsRow base e size v n (ls.set i c).flatten ∧ w.there g (i * size) size ∧ Kept [g] w (w.setCells g (i * size) c) := by
 obtain ⟨h1, h2⟩ := h
 rcases h2 with ⟨rfl, _⟩ | ⟨g', cap, cur, rfl, hb, hh, hcap, hm, hs, ht⟩
 ·simp [Value.ownBlock] at hv
 ·simp [Value.ownBlock] at hv
  subst hv
  have hfl := flat_len ls hls
  have hsz : (i + 1) * size ≤ cap * size := Nat.mul_le_mul_right size (by omega)
  rw [Nat.add_mul, Nat.one_mul] at hsz
  have hnc : n * size ≤ cap * size := Nat.mul_le_mul_right size hcap
  have hin : (i + 1) * size ≤ n * size := Nat.mul_le_mul_right size (by omega)
  rw [Nat.add_mul, Nat.one_mul] at hin
  obtain ⟨cur', q1, q2, q3⟩ := setCells_at g' c (i * size) w cur hh
  refine ⟨⟨?_, .inr ⟨g', cap, cur', rfl, hb, q1, hcap, hm, by rw [q2]; exact hs, ?_⟩⟩, ?_, setCells_kept _ _ _ _⟩
  ·rw [flat_len (size := size) _ (fun x hx => by
    rcases List.mem_or_eq_of_mem_set hx with hx | rfl
    ·exact hls x hx
    ·exact hc), List.length_set, hn]
  ·apply List.ext_getElem?
   intro j
   rw [flat_set ls i c hls hc, List.getElem?_take]
   by_cases hj : j < n * size
   ·rw [if_pos hj, Array.getElem?_toList, q3 j (by omega), hc]
    by_cases q : i * size ≤ j ∧ j < i * size + size
    ·rw [if_pos q, if_pos ⟨by omega, q⟩]
    ·rw [if_neg q, if_neg (fun q' => q q'.2), ← ht, List.getElem?_take, if_pos hj, Array.getElem?_toList]
   ·rw [if_neg hj, if_neg (by omega), List.getElem?_eq_none (by rw [hfl, hn]; omega)]
  ·intro j hj
   have hl : i * size + j < cur.size := by omega
   have hcell : w.cell? ⟨g', i * size + j, none⟩ = some cur[i * size + j] := cell_head hh (by simp [hl])
   exact ⟨by rw [hcell]; rfl, free_head hh⟩
section
variable {α : Type} [Inhabited α]
theorem sort_world (enc : α → List Value) (k : Nat) {w : World} {g e : Nat} {cur : Array Value} (hh : w.heap[g]? = some (.cells cur e (0, 0))) (m : Nat) (d : Array α) (os : Array Obj) (hs : d.size * k ≤ cur.size) :
  Kept [g] w (sortWorldK enc k w g 0 m d os) ∧ ∃ cur', (sortWorldK enc k w g 0 m d os).heap[g]? = some (.cells cur' e (0, 0)) ∧ cur'.size = cur.size ∧ ∀ t, t < cur.size → cur'[t]? = if t < d.size * k then some (enc d[t / k]!)[t % k]! else cur[t]? := by
 have hg := lt_of_block hh
 have h0 : ∀ j, (sortWorldK enc k w g 0 m d os).heap[j]? = if j < w.heap.size then (w.heap.modify g (Sort.onCells (Sort.putCells id 0 (flatK enc k d))))[j]? else os[j - w.heap.size]? := by
  intro j
  show ((w.heap.modify g (Sort.onCells (Sort.putCells id 0 (flatK enc k d)))) ++ os)[j]? = _
  rw [Array.getElem?_append, Array.size_modify]
 refine ⟨⟨rfl, rfl, rfl, ?_, ?_⟩, Sort.putCells id 0 (flatK enc k d) cur, ?_, by simp [Sort.putCells], ?_⟩
 ·show w.heap.size ≤ ((w.heap.modify g (Sort.onCells (Sort.putCells id 0 (flatK enc k d)))) ++ os).size
  rw [Array.size_append, Array.size_modify]; omega
 ·intro j hj hx
  rw [h0, if_pos hj, Array.getElem?_modify, if_neg (by simp at hx; omega)]
 ·rw [h0, if_pos hg, Array.getElem?_modify, if_pos rfl, hh]
  rfl
 ·intro t ht
  simp only [Sort.putCells, Array.getElem?_mapIdx, Nat.zero_le, true_and, Nat.zero_add, Nat.sub_zero, size_flatK, id]
  rw [Array.getElem?_eq_getElem ht]
  by_cases q : t < d.size * k
  ·rw [if_pos q, Option.map_some, if_pos q, get_flatK enc k d t q]
  ·rw [if_neg q, Option.map_some, if_neg q]
end
def strB (l : List UInt8) : ByteArray := ⟨l.toArray⟩
theorem strB_list (l : List UInt8) : (strB l).data.toList = l := by simp [strB]
def isDig (c : UInt8) : Bool := decide (48 ≤ c.toNat) && decide (c.toNat ≤ 57)
def hexV (c : UInt8) : Option Nat :=
 if 48 ≤ c.toNat ∧ c.toNat ≤ 57 then some (c.toNat - 48) else if 97 ≤ c.toNat ∧ c.toNat ≤ 102 then some (c.toNat - 87) else if 65 ≤ c.toNat ∧ c.toNat ≤ 70 then some (c.toNat - 55) else none
def utfB (r : Int) : List UInt8 := (Utf8.encode r).data.toList
def runeB (r : Nat) : List UInt8 := utfB r
def digSum (s : List UInt8) : Nat := s.foldl (fun a c => 10 * a + (c.toNat - 48)) 0
section
variable {α : Type} (sub : List UInt8 → Nat → Sum Int (α × List UInt8 × Nat))
end
open Go.Lib (decodeN decodeL)
def gb (l : List UInt8) (i : Nat) : Nat := (l.getD i 0).toNat
theorem get_getD (l : List UInt8) (i : Nat) : ((⟨l.toArray⟩ : ByteArray).get! i) = l.getD i 0 := by
 show l.toArray[i]! = _
 rw [List.getD_eq_getElem?_getD, getElem!_def]
 simp only [List.getElem?_toArray]
 cases l[i]? <;> rfl
theorem decodeL_eq (l : List UInt8) : decodeL l = decodeN l.length (gb l 0) (gb l 1) (gb l 2) (gb l 3) := by
 unfold decodeL
 rw [Lib.decode_at]
 have hs : (⟨l.toArray⟩ : ByteArray).size = l.length := by simp [ByteArray.size]
 simp only [hs, Nat.sub_zero, Nat.zero_add, get_getD, gb]
theorem gb_app (l x : List UInt8) (i : Nat) (h : i < l.length) : gb (l ++ x) i = gb l i := by
 unfold gb
 rw [List.getD_eq_getElem?_getD, List.getD_eq_getElem?_getD, List.getElem?_append_left h]
theorem gb_lt (l : List UInt8) (i : Nat) : gb l i < 256 := (l.getD i 0).toNat_lt
theorem decodeN_ok {n b0 b1 b2 b3 : Nat} (hn : 1 ≤ n) (h1 : b1 < 256) (h2 : b2 < 256) (h3 : b3 < 256) (h0 : b0 < 256) (h : ¬((decodeN n b0 b1 b2 b3).1 = 65533 ∧ (decodeN n b0 b1 b2 b3).2 = 1)) :
  (b0 < 128 ∧ decodeN n b0 b1 b2 b3 = (b0, 1)) ∨
  (128 ≤ b0 ∧ b0 / 32 = 6 ∧ 2 ≤ n ∧ b1 / 64 = 2 ∧ 128 ≤ b0 % 32 * 64 + b1 % 64 ∧ decodeN n b0 b1 b2 b3 = (b0 % 32 * 64 + b1 % 64, 2)) ∨
  (128 ≤ b0 ∧ b0 / 16 = 14 ∧ 3 ≤ n ∧ b1 / 64 = 2 ∧ b2 / 64 = 2 ∧ 2048 ≤ b0 % 16 * 4096 + b1 % 64 * 64 + b2 % 64 ∧ (b0 % 16 * 4096 + b1 % 64 * 64 + b2 % 64 < 55296 ∨ 57344 ≤ b0 % 16 * 4096 + b1 % 64 * 64 + b2 % 64) ∧ decodeN n b0 b1 b2 b3 = (b0 % 16 * 4096 + b1 % 64 * 64 + b2 % 64, 3)) ∨
  (128 ≤ b0 ∧ b0 / 8 = 30 ∧ 4 ≤ n ∧ b1 / 64 = 2 ∧ b2 / 64 = 2 ∧ b3 / 64 = 2 ∧ 65536 ≤ b0 % 8 * 262144 + b1 % 64 * 4096 + b2 % 64 * 64 + b3 % 64 ∧ b0 % 8 * 262144 + b1 % 64 * 4096 + b2 % 64 * 64 + b3 % 64 ≤ 1114111 ∧ decodeN n b0 b1 b2 b3 = (b0 % 8 * 262144 + b1 % 64 * 4096 + b2 % 64 * 64 + b3 % 64, 4)) := by
 unfold decodeN at h ⊢
 by_cases c0 : b0 < 128
 ·rw [if_pos c0]; exact .inl ⟨c0, rfl⟩
 rw [if_neg c0] at h ⊢
 by_cases c1 : b0 / 32 = 6 ∧ (1 < n ∧ b1 / 64 = 2)
 ·rw [if_pos c1] at h ⊢
  by_cases d : b0 % 32 * 64 + b1 % 64 ≥ 128
  ·rw [if_pos d]; exact .inr (.inl ⟨by omega, c1.1, by omega, c1.2.2, d, rfl⟩)
  ·rw [if_neg d] at h; exact absurd ⟨rfl, rfl⟩ h
 rw [if_neg c1] at h ⊢
 by_cases c2 : b0 / 16 = 14 ∧ (1 < n ∧ b1 / 64 = 2) ∧ (2 < n ∧ b2 / 64 = 2)
 ·rw [if_pos c2] at h ⊢
  split at h
  ·rename_i d; rw [if_pos d]; exact .inr (.inr (.inl ⟨by omega, c2.1, by omega, c2.2.1.2, c2.2.2.2, d.1, by omega, rfl⟩))
  ·exact absurd ⟨rfl, rfl⟩ h
 rw [if_neg c2] at h ⊢
 by_cases c3 : b0 / 8 = 30 ∧ (1 < n ∧ b1 / 64 = 2) ∧ (2 < n ∧ b2 / 64 = 2) ∧ (3 < n ∧ b3 / 64 = 2)
 ·rw [if_pos c3] at h ⊢
  split at h
  ·rename_i d; rw [if_pos d]; exact .inr (.inr (.inr ⟨by omega, c3.1, by omega, c3.2.1.2, c3.2.2.1.2, c3.2.2.2.2, d.1, by omega, rfl⟩))
  ·exact absurd ⟨rfl, rfl⟩ h
 rw [if_neg c3] at h
 exact absurd ⟨rfl, rfl⟩ h
theorem decodeN_more {n m b0 b1 b2 b3 c1 c2 c3 : Nat} (hn : 1 ≤ n) (hm : (decodeN n b0 b1 b2 b3).2 ≤ m) (h1 : b1 < 256) (h2 : b2 < 256) (h3 : b3 < 256) (h0 : b0 < 256) (h : ¬((decodeN n b0 b1 b2 b3).1 = 65533 ∧ (decodeN n b0 b1 b2 b3).2 = 1))
  (e1 : 1 < (decodeN n b0 b1 b2 b3).2 → c1 = b1) (e2 : 2 < (decodeN n b0 b1 b2 b3).2 → c2 = b2) (e3 : 3 < (decodeN n b0 b1 b2 b3).2 → c3 = b3) : decodeN m b0 c1 c2 c3 = decodeN n b0 b1 b2 b3 := by
 rcases decodeN_ok hn h1 h2 h3 h0 h with ⟨q0, e⟩ | ⟨q0, q1, q2, q3, q4, e⟩ | ⟨q0, q1, q2, q3, q4, q5, q6, e⟩ | ⟨q0, q1, q2, q3, q4, q5, q6, q7, e⟩
 all_goals
  rw [e] at hm e1 e2 e3
  simp only at hm e1 e2 e3
 ·rw [e]; unfold decodeN; rw [if_pos q0]
 ·rw [e, e1 (by omega)]
  unfold decodeN
  rw [if_neg (by omega), if_pos ⟨q1, by omega, q3⟩, if_pos q4]
 ·rw [e, e1 (by omega), e2 (by omega)]
  unfold decodeN
  rw [if_neg (by omega), if_neg (by omega), if_pos ⟨q1, ⟨by omega, q3⟩, by omega, q4⟩, if_pos ⟨q5, by omega⟩]
 ·rw [e, e1 (by omega), e2 (by omega), e3 (by omega)]
  unfold decodeN
  rw [if_neg (by omega), if_neg (by omega), if_neg (by omega), if_pos ⟨q1, ⟨by omega, q3⟩, ⟨by omega, q4⟩, by omega, q5⟩, if_pos ⟨q6, by omega⟩]
theorem take_two {l : List UInt8} (h : 2 ≤ l.length) : l.take 2 = [l.getD 0 0, l.getD 1 0] := by
 match l, h with
 | a :: b :: t, _ => rfl
theorem take_three {l : List UInt8} (h : 3 ≤ l.length) : l.take 3 = [l.getD 0 0, l.getD 1 0, l.getD 2 0] := by
 match l, h with
 | a :: b :: c :: t, _ => rfl
theorem take_four {l : List UInt8} (h : 4 ≤ l.length) : l.take 4 = [l.getD 0 0, l.getD 1 0, l.getD 2 0, l.getD 3 0] := by
 match l, h with
 | a :: b :: c :: d :: t, _ => rfl
theorem enc_aux (c : Nat) : (if c < 128 then (⟨#[UInt8.ofNat c]⟩ : ByteArray) else if c < 2048 then ⟨#[UInt8.ofNat (192 + c / 64), UInt8.ofNat (128 + c % 64)]⟩
  else if c < 65536 then ⟨#[UInt8.ofNat (224 + c / 4096), UInt8.ofNat (128 + c / 64 % 64), UInt8.ofNat (128 + c % 64)]⟩
  else ⟨#[UInt8.ofNat (240 + c / 262144), UInt8.ofNat (128 + c / 4096 % 64), UInt8.ofNat (128 + c / 64 % 64), UInt8.ofNat (128 + c % 64)]⟩).data.toList =
  if c < 128 then [UInt8.ofNat c] else if c < 2048 then [UInt8.ofNat (192 + c / 64), UInt8.ofNat (128 + c % 64)]
  else if c < 65536 then [UInt8.ofNat (224 + c / 4096), UInt8.ofNat (128 + c / 64 % 64), UInt8.ofNat (128 + c % 64)]
  else [UInt8.ofNat (240 + c / 262144), UInt8.ofNat (128 + c / 4096 % 64), UInt8.ofNat (128 + c / 64 % 64), UInt8.ofNat (128 + c % 64)] := by
 by_cases c1 : c < 128
 ·rw [if_pos c1, if_pos c1]
 rw [if_neg c1, if_neg c1]
 by_cases c2 : c < 2048
 ·rw [if_pos c2, if_pos c2]
 rw [if_neg c2, if_neg c2]
 by_cases c3 : c < 65536
 ·rw [if_pos c3, if_pos c3]
 rw [if_neg c3, if_neg c3]
theorem valid_of (c : Nat) (h : c < 55296 ∨ (57344 ≤ c ∧ c ≤ 1114111)) : Utf8.valid (c : Int) = true := by
 unfold Utf8.valid
 rw [Bool.or_eq_true, Bool.and_eq_true, Bool.and_eq_true]
 simp only [decide_eq_true_eq]
 omega
theorem enc_of (r : Int) (h : Utf8.valid r = true) : utfB r = if r.toNat < 128 then [UInt8.ofNat r.toNat] else if r.toNat < 2048 then [UInt8.ofNat (192 + r.toNat / 64), UInt8.ofNat (128 + r.toNat % 64)]
  else if r.toNat < 65536 then [UInt8.ofNat (224 + r.toNat / 4096), UInt8.ofNat (128 + r.toNat / 64 % 64), UInt8.ofNat (128 + r.toNat % 64)]
  else [UInt8.ofNat (240 + r.toNat / 262144), UInt8.ofNat (128 + r.toNat / 4096 % 64), UInt8.ofNat (128 + r.toNat / 64 % 64), UInt8.ofNat (128 + r.toNat % 64)] := by
 unfold utfB Utf8.encode
 rw [if_pos h]
 exact enc_aux _
theorem encode_eq (c : Nat) (h : c < 55296 ∨ (57344 ≤ c ∧ c ≤ 1114111)) : runeB c =
  if c < 128 then [UInt8.ofNat c] else if c < 2048 then [UInt8.ofNat (192 + c / 64), UInt8.ofNat (128 + c % 64)]
  else if c < 65536 then [UInt8.ofNat (224 + c / 4096), UInt8.ofNat (128 + c / 64 % 64), UInt8.ofNat (128 + c % 64)]
  else [UInt8.ofNat (240 + c / 262144), UInt8.ofNat (128 + c / 4096 % 64), UInt8.ofNat (128 + c / 64 % 64), UInt8.ofNat (128 + c % 64)] := by
 have e := enc_of c (valid_of c h)
 rw [Int.toNat_natCast] at e
 exact e
structure Decoded (l : List UInt8) (c n : Nat) : Prop where
 eq : decodeL l = (c, n)
 le : n ≤ l.length
 pos : 1 ≤ n
 one : n = 1 → gb l 0 < 128 ∧ c = gb l 0
 high : 2 ≤ n → ∀ b, b ∈ l.take n → 128 ≤ b.toNat
 rune : runeB c = l.take n
 valid : c < 55296 ∨ (57344 ≤ c ∧ c ≤ 1114111)
 more : ∀ x, decodeL (l.take n ++ x) = (c, n)
theorem decoded {l : List UInt8} (h0 : l ≠ []) (h : ¬((decodeL l).1 = 65533 ∧ (decodeL l).2 = 1)) : Decoded l (decodeL l).1 (decodeL l).2 := by
 have hn : 1 ≤ l.length := by cases l with | nil => exact absurd rfl h0 | cons a t => simp
 have hmore : 1 ≤ (decodeL l).2 → (decodeL l).2 ≤ l.length → ∀ x, decodeL (l.take (decodeL l).2 ++ x) = decodeL l := by
  intro g1 g2 x
  have hl : (l.take (decodeL l).2).length = (decodeL l).2 := by rw [List.length_take]; omega
  have hb : ∀ i, i < (decodeL l).2 → gb (l.take (decodeL l).2 ++ x) i = gb l i := fun i hi => by
   rw [gb_app _ x i (by omega)]
   unfold gb
   rw [List.getD_eq_getElem?_getD, List.getD_eq_getElem?_getD, List.getElem?_take_of_lt hi]
  revert hl hb
  generalize e : l.take (decodeL l).2 ++ x = y
  intro hl hb
  have hy : (decodeL l).2 ≤ y.length := by rw [← e, List.length_append]; omega
  rw [decodeL_eq y, hb 0 (by omega)]
  rw [decodeL_eq l] at h hb hy ⊢
  exact decodeN_more hn hy (gb_lt _ _) (gb_lt _ _) (gb_lt _ _) (gb_lt _ _) h (fun q => hb 1 q) (fun q => hb 2 q) (fun q => hb 3 q)
 have b0 : l.getD 0 0 = UInt8.ofNat (gb l 0) := (UInt8.ofNat_toNat).symm
 have b1 : l.getD 1 0 = UInt8.ofNat (gb l 1) := (UInt8.ofNat_toNat).symm
 have b2 : l.getD 2 0 = UInt8.ofNat (gb l 2) := (UInt8.ofNat_toNat).symm
 have b3 : l.getD 3 0 = UInt8.ofNat (gb l 3) := (UInt8.ofNat_toNat).symm
 have t0 : (l.getD 0 0).toNat = gb l 0 := rfl
 have t1 : (l.getD 1 0).toNat = gb l 1 := rfl
 have t2 : (l.getD 2 0).toNat = gb l 2 := rfl
 have t3 : (l.getD 3 0).toNat = gb l 3 := rfl
 have l0 := gb_lt l 0
 have l1 := gb_lt l 1
 have l2 := gb_lt l 2
 have l3 := gb_lt l 3
 have h' := h
 rw [decodeL_eq] at h'
 rcases decodeN_ok hn l1 l2 l3 l0 h' with ⟨q0, e⟩ | ⟨q0, q1, q2, q3, q4, e⟩ | ⟨q0, q1, q2, q3, q4, q5, q6, e⟩ | ⟨q0, q1, q2, q3, q4, q5, q6, q7, e⟩
 all_goals
  rw [← decodeL_eq] at e
  rw [e] at hmore ⊢
  simp only at hmore ⊢
 ·refine ⟨e, hn, Nat.le_refl _, fun _ => ⟨q0, rfl⟩, fun h => by omega, ?_, by omega, hmore (by omega) (by omega)⟩
  rw [encode_eq _ (by omega), if_pos q0]
  cases l with
  | nil => exact absurd rfl h0
  | cons a t => simp [gb]
 ·refine ⟨e, q2, by omega, fun h => by omega, fun _ b hb => ?_, ?_, by omega, hmore (by omega) (by omega)⟩
  ·rw [take_two q2] at hb
   simp only [List.mem_cons, List.not_mem_nil, or_false] at hb
   rcases hb with rfl | rfl
   ·rw [t0]; omega
   ·rw [t1]; omega
  ·rw [encode_eq _ (by omega), if_neg (by omega), if_pos (by omega), take_two q2, b0, b1]
   congr 2 <;> congr 1 <;> omega
 ·refine ⟨e, q2, by omega, fun h => by omega, fun _ b hb => ?_, ?_, by omega, hmore (by omega) (by omega)⟩
  ·rw [take_three q2] at hb
   simp only [List.mem_cons, List.not_mem_nil, or_false] at hb
   rcases hb with rfl | rfl | rfl
   ·rw [t0]; omega
   ·rw [t1]; omega
   ·rw [t2]; omega
  ·rw [encode_eq _ (by omega), if_neg (by omega), if_neg (by omega), if_pos (by omega), take_three q2, b0, b1, b2]
   congr 1
   ·congr 1; omega
   ·congr 1
    ·congr 1; omega
    ·congr 1; congr 1; omega
 ·refine ⟨e, q2, by omega, fun h => by omega, fun _ b hb => ?_, ?_, by omega, hmore (by omega) (by omega)⟩
  ·rw [take_four q2] at hb
   simp only [List.mem_cons, List.not_mem_nil, or_false] at hb
   rcases hb with rfl | rfl | rfl | rfl
   ·rw [t0]; omega
   ·rw [t1]; omega
   ·rw [t2]; omega
   ·rw [t3]; omega
  ·rw [encode_eq _ (by omega), if_neg (by omega), if_neg (by omega), if_neg (by omega), take_four q2, b0, b1, b2, b3]
   congr 1
   ·congr 1; omega
   ·congr 1
    ·congr 1; omega
    ·congr 1
     ·congr 1; omega
     ·congr 1; congr 1; omega
open Go.Lib (decodeL decDigits itoa)
theorem isDig_of (d : Nat) (h : d < 10) : isDig (UInt8.ofNat (48 + d)) = true ∧ (UInt8.ofNat (48 + d)).toNat = 48 + d := by
 have e : (UInt8.ofNat (48 + d)).toNat = 48 + d := by rw [UInt8.toNat_ofNat']; omega
 refine ⟨?_, e⟩
 unfold isDig
 rw [e, Bool.and_eq_true]
 exact ⟨decide_eq_true (by omega), decide_eq_true (by omega)⟩
theorem digSum_snoc (l : List UInt8) (c : UInt8) : digSum (l ++ [c]) = 10 * digSum l + (c.toNat - 48) := by
 unfold digSum
 rw [List.foldl_append]
 rfl
theorem dec_facts (u : Nat) : digSum (decDigits u) = u ∧ (∀ c, c ∈ decDigits u → isDig c = true) ∧ ∃ d t, decDigits u = d :: t ∧ (d = 48 → t = [] ∧ u = 0) := by
 induction u using Nat.strongRecOn with
 | _ u ih =>
  rw [decDigits]
  split
  ·rename_i h
   obtain ⟨h1, h2⟩ := isDig_of u h
   refine ⟨?_, fun c hc => ?_, _, _, rfl, fun e => ⟨rfl, ?_⟩⟩
   ·show 10 * 0 + ((UInt8.ofNat (48 + u)).toNat - 48) = u
    omega
   ·rw [List.mem_singleton.1 hc]; exact h1
   ·rw [e] at h2
    have : (48 : UInt8).toNat = 48 := rfl
    omega
  ·rename_i h
   obtain ⟨i1, i2, d, t, i3, i4⟩ := ih (u / 10) (by omega)
   obtain ⟨h1, h2⟩ := isDig_of (u % 10) (by omega)
   refine ⟨?_, fun c hc => ?_, d, t ++ [UInt8.ofNat (48 + u % 10)], by rw [i3]; rfl, fun e => ?_⟩
   ·rw [digSum_snoc, i1, h2]; omega
   ·rcases List.mem_append.1 hc with hc | hc
    ·exact i2 c hc
    ·rw [List.mem_singleton.1 hc]; exact h1
   ·have := (i4 e).2
    omega
theorem itoa_head (n : Int) : ∃ d t, itoa n = d :: t ∧ (d = 45 ∨ isDig d = true) := by
 unfold itoa
 split
 ·exact ⟨_, _, rfl, .inl rfl⟩
 ·obtain ⟨_, h2, d, t, h3, _⟩ := dec_facts n.toNat
  exact ⟨d, t, h3, .inr (h2 d (by rw [h3]; exact List.mem_cons_self ..))⟩
end Go.Proofs.YtckbnjipecclaaaGreatDoor

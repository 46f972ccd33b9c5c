/- Parts of one proof, merged: XSh XK3C XBu XGD. -/
import Derived.Shelf.Strings.Prefix
import Derived.Shelf.Small.Strs
import Derived.Shelf.Small.Utf8
import Derived.Shelf.Small.Wraps
import Derived.Shelf.Strconv.Itoa3
import Derived.Shelf.Strings.CaseAny
import Derived.Shelf.Unicode.DecodeAny
import Derived.Shelf.Unicode.ValidAny
import Derived.Shelf.Utf8.AppendRunePlain
import Derived.Shelf.Strings.SlTrimAscii
import Derived.Shelf.Strings.OnBuilder
import Derived.Shelf.SlicesQ.IndexFunc
import Derived.Shelf.SlGeneric
import Derived.Ground.NamesProg
import Derived.Ground.SlgfProg
import Derived.Test.YtjccecajigmfkaaGreatDoorProg
import Derived.Laws.BytesArg
import Derived.Lib.UnsafeStr
import Derived.Lib.AppendStr
import Derived.Test.YtjccecajigmfkaaGreatDoorSgF
set_option linter.all false
set_option maxHeartbeats 12800000
set_option maxRecDepth 10000
namespace Go.Proofs
open Go.Shelf
def Tryz.shHasPrefix_ren:Go.Shelf.Ren:=⟨fun | 99=>218 | 206=>249 | n=>n,fun | 9=>9 | 4=>4 | 3=>3 | n=>n,fun | n=>n⟩
theorem Tryz.shHasPrefix:Go.Proofs.Lays.n99 prog Tryz.shHasPrefix_ren:={
 mixed:=Wr
 f99:=func218.trans Wr
 f206:=func249.trans Wr
 t3:=underlying3
 a3:=isAgg3
 z3:=sizeOf3
 v3:=zeroValue3
 t4:=underlying4
 a4:=isAgg4
 z4:=sizeOf4
 v4:=zeroValue4
 t9:=underlying9
 a9:=isAgg9
 z9:=sizeOf9
 v9:=zeroValue9 }
def Tryz.shIndexByte_ren:Go.Shelf.Ren:=⟨fun | 137=>104 | 217=>157 | 266=>202 | n=>n,fun | 9=>9 | 5=>5 | 3=>3 | n=>n,fun | n=>n⟩
theorem Tryz.shIndexByte:Go.Proofs.Lays.n137 prog Tryz.shIndexByte_ren:={
 mixed:=Wr
 f137:=func104.trans Wr
 f217:=func157.trans Wr
 f266:=func202.trans Wr
 t3:=underlying3
 a3:=isAgg3
 z3:=sizeOf3
 v3:=zeroValue3
 t5:=underlying5
 a5:=isAgg5
 z5:=sizeOf5
 v5:=zeroValue5
 t9:=underlying9
 a9:=isAgg9
 z9:=sizeOf9
 v9:=zeroValue9 }
def Tryz.shValidRune_ren:Go.Shelf.Ren:=⟨fun | 119=>255 | n=>n,fun | 21=>21 | 4=>4 | n=>n,fun | n=>n⟩
theorem Tryz.shValidRune:Go.Proofs.Lays.n119 prog Tryz.shValidRune_ren:={
 mixed:=Wr
 f119:=func255.trans Wr
 t4:=underlying4
 a4:=isAgg4
 z4:=sizeOf4
 v4:=zeroValue4
 t21:=underlying21
 a21:=isAgg21
 z21:=sizeOf21
 v21:=zeroValue21 }
def Tryz.shFormatBool_ren:Go.Shelf.Ren:=⟨fun | 121=>192 | 214=>236 | n=>n,fun | 4=>4 | 9=>9 | n=>n,fun | n=>n⟩
theorem Tryz.shFormatBool:Go.Proofs.Lays.n121 prog Tryz.shFormatBool_ren:={
 mixed:=Wr
 f121:=func192.trans Wr
 f214:=func236.trans Wr
 t4:=underlying4
 a4:=isAgg4
 z4:=sizeOf4
 v4:=zeroValue4
 t9:=underlying9
 a9:=isAgg9
 z9:=sizeOf9
 v9:=zeroValue9 }
def Tryz.shItoa_ren:Go.Shelf.Ren:=⟨fun | 171=>193 | 243=>237 | 246=>254 | 283=>264 | 284=>265 | 285=>266 | 286=>267 | 129=>213 | 317=>272 | 318=>273 | 319=>274 | 320=>275 | 337=>277 | 338=>278 | n=>n,fun | 3=>3 | 9=>9 | 2=>2 | 4=>4 | 171=>289 | 0=>0 | 53=>250 | 37=>32 | 5=>5 | 173=>291 | 212=>297 | 51=>220 | 20=>20 | 213=>298 | 46=>145 | 232=>49 | 233=>302 | n=>n,fun | 17=>4 | 18=>5 | 19=>6 | n=>n⟩
theorem Tryz.shItoa:Go.Proofs.LaysM.n171 prog Tryz.shItoa_ren:={
 mixed:=Wr
 f129:=func213.trans Wr
 f171:=func193.trans Wr
 f243:=func237.trans Wr
 f246:=func254.trans Wr
 f283:=func264.trans Wr
 f284:=func265.trans Wr
 f285:=func266.trans Wr
 f286:=func267.trans Wr
 f317:=func272.trans Wr
 f318:=func273.trans Wr
 f319:=func274.trans Wr
 f320:=func275.trans Wr
 f337:=func277.trans Wr
 f338:=func278.trans Wr
 t0:=underlying0
 a0:=isAgg0
 z0:=sizeOf0
 v0:=zeroValue0
 t2:=underlying2
 a2:=isAgg2
 z2:=sizeOf2
 v2:=zeroValue2
 t3:=underlying3
 a3:=isAgg3
 z3:=sizeOf3
 v3:=zeroValue3
 t4:=underlying4
 a4:=isAgg4
 z4:=sizeOf4
 v4:=zeroValue4
 t5:=underlying5
 a5:=isAgg5
 z5:=sizeOf5
 v5:=zeroValue5
 t9:=underlying9
 a9:=isAgg9
 z9:=sizeOf9
 v9:=zeroValue9
 t20:=underlying20
 a20:=isAgg20
 z20:=sizeOf20
 v20:=zeroValue20
 t37:=underlying32
 a37:=isAgg32
 z37:=sizeOf32
 v37:=zeroValue32
 t46:=underlying145
 a46:=isAgg145
 z46:=sizeOf145
 v46:=zeroValue145
 t51:=underlying220
 a51:=isAgg220
 z51:=sizeOf220
 v51:=zeroValue220
 t53:=underlying250
 a53:=isAgg250
 z53:=sizeOf250
 v53:=zeroValue250
 t171:=underlying289
 a171:=isAgg289
 z171:=sizeOf289
 v171:=zeroValue289
 t173:=underlying291
 a173:=isAgg291
 z173:=sizeOf291
 v173:=zeroValue291
 t212:=underlying297
 a212:=isAgg297
 z212:=sizeOf297
 v212:=zeroValue297
 t213:=underlying298
 a213:=isAgg298
 z213:=sizeOf298
 t232:=underlying49
 a232:=isAgg49
 z232:=sizeOf49
 v232:=zeroValue49
 t233:=underlying302
 a233:=isAgg302
 z233:=sizeOf302
 v233:=zeroValue302
 g17:=Wr
 g18:=Wr
 g19:=Wr
 i0:=Wr
 i2:=Wr
 i3:=Wr
 i4:=Wr
 i5:=Wr
 i9:=Wr
 i20:=Wr
 i37:=Wr
 i46:=Wr
 i51:=Wr
 i53:=Wr
 i171:=Wr
 i173:=Wr
 i212:=Wr
 i232:=Wr
 i233:=Wr
 m17:=Wr
 m18:=Wr
 m19:=by kernel_rfl }
def Tryz.shToLower_ren:Go.Shelf.Ren:=⟨fun | 159=>276 | 165=>279 | 166=>191 | 167=>99 | 169=>100 | 230=>280 | 204=>281 | 240=>147 | 241=>282 | 197=>199 | 118=>283 | 168=>251 | 270=>284 | 262=>285 | 276=>190 | 277=>286 | 260=>239 | 242=>262 | 313=>287 | 278=>271 | 274=>288 | 275=>289 | n=>n,fun | 9=>9 | 4=>4 | 3=>3 | 5=>5 | 72=>141 | 0=>0 | 76=>229 | 75=>143 | 107=>301 | 70=>139 | 20=>20 | 37=>32 | 127=>186 | 21=>21 | 105=>237 | 164=>227 | 162=>307 | 203=>305 | 119=>281 | 46=>145 | 139=>284 | 138=>283 | 51=>220 | 160=>308 | 208=>314 | 206=>312 | 80=>111 | n=>n,fun | 13=>7 | 3=>2 | 4=>3 | n=>n⟩
theorem Tryz.shToLower:Go.Proofs.Lays.n159 prog Tryz.shToLower_ren:={
 mixed:=Wr
 f118:=func283.trans Wr
 f159:=func276.trans Wr
 f165:=func279.trans Wr
 f166:=func191.trans Wr
 f167:=func99.trans Wr
 f168:=func251.trans Wr
 f169:=func100.trans Wr
 f197:=func199.trans Wr
 f204:=func281.trans Wr
 f230:=func280.trans Wr
 f240:=func147.trans Wr
 f241:=func282.trans Wr
 f242:=func262.trans Wr
 f260:=func239.trans Wr
 f262:=func285.trans Wr
 f270:=func284.trans Wr
 f274:=func288.trans Wr
 f275:=func289.trans Wr
 f276:=func190.trans Wr
 f277:=func286.trans Wr
 f278:=func271.trans Wr
 f313:=func287.trans Wr
 t0:=underlying0
 a0:=isAgg0
 z0:=sizeOf0
 v0:=zeroValue0
 t3:=underlying3
 a3:=isAgg3
 z3:=sizeOf3
 v3:=zeroValue3
 t4:=underlying4
 a4:=isAgg4
 z4:=sizeOf4
 v4:=zeroValue4
 t5:=underlying5
 a5:=isAgg5
 z5:=sizeOf5
 v5:=zeroValue5
 t9:=underlying9
 a9:=isAgg9
 z9:=sizeOf9
 v9:=zeroValue9
 t20:=underlying20
 a20:=isAgg20
 z20:=sizeOf20
 v20:=zeroValue20
 t21:=underlying21
 a21:=isAgg21
 z21:=sizeOf21
 v21:=zeroValue21
 t37:=underlying32
 a37:=isAgg32
 z37:=sizeOf32
 v37:=zeroValue32
 t46:=underlying145
 a46:=isAgg145
 z46:=sizeOf145
 v46:=zeroValue145
 t51:=underlying220
 a51:=isAgg220
 z51:=sizeOf220
 v51:=zeroValue220
 t70:=underlying139
 a70:=isAgg139
 z70:=sizeOf139
 v70:=zeroValue139
 t72:=underlying141
 a72:=isAgg141
 z72:=sizeOf141
 v72:=zeroValue141
 t75:=underlying143
 a75:=isAgg143
 z75:=sizeOf143
 v75:=zeroValue143
 t76:=underlying229
 a76:=isAgg229
 z76:=sizeOf229
 v76:=zeroValue229
 t105:=underlying237
 a105:=isAgg237
 z105:=sizeOf237
 v105:=zeroValue237
 t107:=underlying301
 a107:=isAgg301
 z107:=sizeOf301
 v107:=zeroValue301
 t119:=underlying281
 a119:=isAgg281
 z119:=sizeOf281
 t127:=underlying186
 a127:=isAgg186
 z127:=sizeOf186
 v127:=zeroValue186
 t138:=underlying283
 a138:=isAgg283
 z138:=sizeOf283
 v138:=zeroValue283
 t139:=underlying284
 a139:=isAgg284
 z139:=sizeOf284
 v139:=zeroValue284
 t160:=underlying308
 a160:=isAgg308
 z160:=sizeOf308
 v160:=zeroValue308
 t162:=underlying307
 a162:=isAgg307
 z162:=sizeOf307
 v162:=zeroValue307
 t164:=underlying227
 a164:=isAgg227
 z164:=sizeOf227
 v164:=zeroValue227
 t203:=underlying305
 a203:=isAgg305
 z203:=sizeOf305
 v203:=zeroValue305
 t206:=underlying312
 a206:=isAgg312
 z206:=sizeOf312
 v206:=zeroValue312
 t208:=underlying314
 a208:=isAgg314
 z208:=sizeOf314
 v208:=zeroValue314
 g3:=Wr
 g4:=Wr
 g13:=by kernel_rfl }
def Tryz.shDecode_ren:Go.Shelf.Ren:=⟨fun | 197=>199 | 260=>239 | n=>n,fun | 9=>9 | 21=>21 | 3=>3 | 4=>4 | 5=>5 | 105=>237 | 119=>281 | 0=>0 | 46=>145 | 139=>284 | 138=>283 | n=>n,fun | 3=>2 | 4=>3 | n=>n⟩
theorem Tryz.shDecode:Go.Proofs.Lays.n197 prog Tryz.shDecode_ren:={
 mixed:=Wr
 f197:=func199.trans Wr
 f260:=func239.trans Wr
 t0:=underlying0
 a0:=isAgg0
 z0:=sizeOf0
 v0:=zeroValue0
 t3:=underlying3
 a3:=isAgg3
 z3:=sizeOf3
 v3:=zeroValue3
 t4:=underlying4
 a4:=isAgg4
 z4:=sizeOf4
 v4:=zeroValue4
 t5:=underlying5
 a5:=isAgg5
 z5:=sizeOf5
 v5:=zeroValue5
 t9:=underlying9
 a9:=isAgg9
 z9:=sizeOf9
 v9:=zeroValue9
 t21:=underlying21
 a21:=isAgg21
 z21:=sizeOf21
 v21:=zeroValue21
 t46:=underlying145
 a46:=isAgg145
 z46:=sizeOf145
 v46:=zeroValue145
 t105:=underlying237
 a105:=isAgg237
 z105:=sizeOf237
 v105:=zeroValue237
 t119:=underlying281
 a119:=isAgg281
 z119:=sizeOf281
 t138:=underlying283
 a138:=isAgg283
 z138:=sizeOf283
 v138:=zeroValue283
 t139:=underlying284
 a139:=isAgg284
 z139:=sizeOf284
 v139:=zeroValue284
 g3:=Wr
 g4:=by kernel_rfl }
def Tryz.shValid_ren:Go.Shelf.Ren:=⟨fun | 196=>258 | 259=>268 | n=>n,fun | 9=>9 | 4=>4 | 3=>3 | 5=>5 | 12=>12 | 119=>281 | 0=>0 | 46=>145 | 139=>284 | 138=>283 | 53=>250 | n=>n,fun | 3=>2 | 4=>3 | n=>n⟩
theorem Tryz.shValid:Go.Proofs.Lays.n196 prog Tryz.shValid_ren:={
 mixed:=Wr
 f196:=func258.trans Wr
 f259:=func268.trans Wr
 t0:=underlying0
 a0:=isAgg0
 z0:=sizeOf0
 v0:=zeroValue0
 t3:=underlying3
 a3:=isAgg3
 z3:=sizeOf3
 v3:=zeroValue3
 t4:=underlying4
 a4:=isAgg4
 z4:=sizeOf4
 v4:=zeroValue4
 t5:=underlying5
 a5:=isAgg5
 z5:=sizeOf5
 v5:=zeroValue5
 t9:=underlying9
 a9:=isAgg9
 z9:=sizeOf9
 v9:=zeroValue9
 t12:=underlying12
 a12:=isAgg12
 z12:=sizeOf12
 v12:=zeroValue12
 t46:=underlying145
 a46:=isAgg145
 z46:=sizeOf145
 v46:=zeroValue145
 t53:=underlying250
 a53:=isAgg250
 z53:=sizeOf250
 v53:=zeroValue250
 t119:=underlying281
 a119:=isAgg281
 z119:=sizeOf281
 t138:=underlying283
 a138:=isAgg283
 z138:=sizeOf283
 v138:=zeroValue283
 t139:=underlying284
 a139:=isAgg284
 z139:=sizeOf284
 v139:=zeroValue284
 g3:=Wr
 g4:=by kernel_rfl }
def Tryz.shAppendRune_ren:Go.Shelf.Ren:=⟨fun | 242=>262 | 278=>271 | n=>n,fun | 37=>32 | 21=>21 | 51=>220 | 4=>4 | 5=>5 | 46=>145 | n=>n,fun | n=>n⟩
theorem Tryz.shAppendRune:Go.Proofs.Lays.n242 prog Tryz.shAppendRune_ren:={
 mixed:=Wr
 f242:=func262.trans Wr
 f278:=func271.trans Wr
 t4:=underlying4
 a4:=isAgg4
 z4:=sizeOf4
 v4:=zeroValue4
 t5:=underlying5
 a5:=isAgg5
 z5:=sizeOf5
 v5:=zeroValue5
 t21:=underlying21
 a21:=isAgg21
 z21:=sizeOf21
 v21:=zeroValue21
 t37:=underlying32
 a37:=isAgg32
 z37:=sizeOf32
 v37:=zeroValue32
 t46:=underlying145
 a46:=isAgg145
 z46:=sizeOf145
 v46:=zeroValue145
 t51:=underlying220
 a51:=isAgg220
 z51:=sizeOf220
 v51:=zeroValue220 }
def Tryz.shTrim_ren:Go.Shelf.Ren:=⟨fun | 160=>102 | 232=>151 | 231=>150 | 227=>152 | 234=>154 | 233=>153 | 236=>156 | 235=>155 | 228=>198 | 271=>201 | 151=>200 | 197=>199 | 120=>241 | 152=>240 | 260=>239 | 137=>104 | 119=>255 | 224=>256 | 225=>257 | 217=>157 | 266=>202 | n=>n,fun | 9=>9 | 4=>4 | 3=>3 | 5=>5 | 117=>194 | 116=>193 | 0=>0 | 124=>197 | 21=>21 | 105=>237 | 46=>145 | 119=>281 | 139=>284 | 138=>283 | n=>n,fun | 3=>2 | 4=>3 | n=>n⟩
theorem Tryz.shTrim:Go.Proofs.Lays.n160 prog Tryz.shTrim_ren:={
 mixed:=Wr
 f119:=func255.trans Wr
 f120:=func241.trans Wr
 f137:=func104.trans Wr
 f151:=func200.trans Wr
 f152:=func240.trans Wr
 f160:=func102.trans Wr
 f197:=func199.trans Wr
 f217:=func157.trans Wr
 f224:=func256.trans Wr
 f225:=func257.trans Wr
 f227:=func152.trans Wr
 f228:=func198.trans Wr
 f231:=func150.trans Wr
 f232:=func151.trans Wr
 f233:=func153.trans Wr
 f234:=func154.trans Wr
 f235:=func155.trans Wr
 f236:=func156.trans Wr
 f260:=func239.trans Wr
 f266:=func202.trans Wr
 f271:=func201.trans Wr
 t0:=underlying0
 a0:=isAgg0
 z0:=sizeOf0
 v0:=zeroValue0
 t3:=underlying3
 a3:=isAgg3
 z3:=sizeOf3
 v3:=zeroValue3
 t4:=underlying4
 a4:=isAgg4
 z4:=sizeOf4
 v4:=zeroValue4
 t5:=underlying5
 a5:=isAgg5
 z5:=sizeOf5
 v5:=zeroValue5
 t9:=underlying9
 a9:=isAgg9
 z9:=sizeOf9
 v9:=zeroValue9
 t21:=underlying21
 a21:=isAgg21
 z21:=sizeOf21
 v21:=zeroValue21
 t46:=underlying145
 a46:=isAgg145
 z46:=sizeOf145
 v46:=zeroValue145
 t105:=underlying237
 a105:=isAgg237
 z105:=sizeOf237
 v105:=zeroValue237
 t116:=underlying193
 a116:=isAgg193
 z116:=sizeOf193
 t117:=underlying194
 a117:=isAgg194
 z117:=sizeOf194
 v117:=zeroValue194
 t119:=underlying281
 a119:=isAgg281
 z119:=sizeOf281
 t124:=underlying197
 a124:=isAgg197
 z124:=sizeOf197
 v124:=zeroValue197
 t138:=underlying283
 a138:=isAgg283
 z138:=sizeOf283
 v138:=zeroValue283
 t139:=underlying284
 a139:=isAgg284
 z139:=sizeOf284
 v139:=zeroValue284
 g3:=Wr
 g4:=by kernel_rfl }
def Tryz.shTrimLeft_ren:Go.Shelf.Ren:=⟨fun | 161=>172 | 231=>150 | 227=>152 | 233=>153 | 235=>155 | 228=>198 | 197=>199 | 151=>200 | 260=>239 | 152=>240 | 137=>104 | 119=>255 | 224=>256 | 225=>257 | 217=>157 | 266=>202 | n=>n,fun | 9=>9 | 4=>4 | 3=>3 | 5=>5 | 117=>194 | 116=>193 | 0=>0 | 124=>197 | 105=>237 | 21=>21 | 119=>281 | 46=>145 | 139=>284 | 138=>283 | n=>n,fun | 3=>2 | 4=>3 | n=>n⟩
theorem Tryz.shTrimLeft:Go.Proofs.Lays.n161 prog Tryz.shTrimLeft_ren:={
 mixed:=Wr
 f119:=func255.trans Wr
 f137:=func104.trans Wr
 f151:=func200.trans Wr
 f152:=func240.trans Wr
 f161:=func172.trans Wr
 f197:=func199.trans Wr
 f217:=func157.trans Wr
 f224:=func256.trans Wr
 f225:=func257.trans Wr
 f227:=func152.trans Wr
 f228:=func198.trans Wr
 f231:=func150.trans Wr
 f233:=func153.trans Wr
 f235:=func155.trans Wr
 f260:=func239.trans Wr
 f266:=func202.trans Wr
 t0:=underlying0
 a0:=isAgg0
 z0:=sizeOf0
 v0:=zeroValue0
 t3:=underlying3
 a3:=isAgg3
 z3:=sizeOf3
 v3:=zeroValue3
 t4:=underlying4
 a4:=isAgg4
 z4:=sizeOf4
 v4:=zeroValue4
 t5:=underlying5
 a5:=isAgg5
 z5:=sizeOf5
 v5:=zeroValue5
 t9:=underlying9
 a9:=isAgg9
 z9:=sizeOf9
 v9:=zeroValue9
 t21:=underlying21
 a21:=isAgg21
 z21:=sizeOf21
 v21:=zeroValue21
 t46:=underlying145
 a46:=isAgg145
 z46:=sizeOf145
 v46:=zeroValue145
 t105:=underlying237
 a105:=isAgg237
 z105:=sizeOf237
 v105:=zeroValue237
 t116:=underlying193
 a116:=isAgg193
 z116:=sizeOf193
 t117:=underlying194
 a117:=isAgg194
 z117:=sizeOf194
 v117:=zeroValue194
 t119:=underlying281
 a119:=isAgg281
 z119:=sizeOf281
 t124:=underlying197
 a124:=isAgg197
 z124:=sizeOf197
 v124:=zeroValue197
 t138:=underlying283
 a138:=isAgg283
 z138:=sizeOf283
 v138:=zeroValue283
 t139:=underlying284
 a139:=isAgg284
 z139:=sizeOf284
 v139:=zeroValue284
 g3:=Wr
 g4:=by kernel_rfl }
def Tryz.shIndexSig_ren:Go.Shelf.Ren:=⟨fun | 6=>116 | n=>n,fun | 22=>26 | 23=>38 | 25=>104 | 3=>3 | 0=>0 | 4=>4 | n=>n,fun | n=>n⟩
theorem Tryz.shIndexSig:Go.Proofs.SlLaysH0.n6 prog Tryz.shIndexSig_ren:={
 mixed:=Wr
 f6:=⟨Tryz.f116.name,Wo,func116.trans Wr⟩
 t0:=underlying0
 a0:=isAgg0
 z0:=sizeOf0
 v0:=zeroValue0
 t3:=underlying3
 a3:=isAgg3
 z3:=sizeOf3
 v3:=zeroValue3
 t4:=underlying4
 a4:=isAgg4
 z4:=sizeOf4
 v4:=zeroValue4
 t22:=underlying26
 a22:=isAgg26
 z22:=sizeOf26
 v22:=zeroValue26
 t25:=underlying104
 a25:=isAgg104
 z25:=sizeOf104
 v25:=zeroValue104 }
def Tryz.shIndexFunc_ren:Go.Shelf.Ren:=⟨fun | 6=>165 | n=>n,fun | 22=>23 | 23=>41 | 25=>204 | 3=>3 | 0=>0 | 4=>4 | n=>n,fun | n=>n⟩
theorem Tryz.shIndexFunc:Go.Proofs.SlLaysH0.n6 prog Tryz.shIndexFunc_ren:={
 mixed:=Wr
 f6:=⟨Tryz.f165.name,Wo,func165.trans Wr⟩
 t0:=underlying0
 a0:=isAgg0
 z0:=sizeOf0
 v0:=zeroValue0
 t3:=underlying3
 a3:=isAgg3
 z3:=sizeOf3
 v3:=zeroValue3
 t4:=underlying4
 a4:=isAgg4
 z4:=sizeOf4
 v4:=zeroValue4
 t22:=underlying23
 a22:=isAgg23
 z22:=sizeOf23
 v22:=zeroValue23
 t25:=underlying204
 a25:=isAgg204
 z25:=sizeOf204
 v25:=zeroValue204 }
end Go.Proofs
namespace Go.Proofs.YtjccecajigmfkaaGreatDoor
open Go.Proofs.Tryz
open Go.RowKit
open Go.Lib (decodeL)
variable {P:Program}{T:Nat}{W:World}{b:Nat}{l:List UInt8}{p:Value}{t:TypeId}{v:Value}{w w':World}
theorem yd (l:List UInt8):(zx l).size=l.length:=by simp [zx,ByteArray.size]
theorem zp.toStr (h:zp w v l):(convert 32 9 v).run prog w = .ok (.string (zx l)) w:=by
 rcases h.2 with ⟨rfl,d⟩ | ⟨d,p,cap,rfl,hm⟩ | ⟨g,o,cap,rfl,hc,hm,f⟩;·have:l=[]:=List.eq_nil_of_length_eq_zero d;subst this;have a:=run_convert_bytes_nil (P:=prog) w 32 5 underlying32 underlying5 0 0 9 underlying9;have j:zx []=ByteArray.empty:=Wk;rw [j];exact a
 ·have:l=[]:=List.eq_nil_of_length_eq_zero d;subst this;have a:=run_convert_bytes_string (P:=prog) w 32 9 5 (some p) 0 cap underlying32 underlying5 underlying9;rw [a];rfl
 ·have a:=run_convert_bytes_arg (P:=prog) w 32 5 underlying32 underlying5 g o l.length cap (l.map fun b=>(b.toNat:Int)) Wz (fun i e=>by
   rw [f.at (by simpa using e)];simp [bv,List.getD_eq_getElem?_getD,e]) 9 underlying9
  have m:strOfNums (l.map fun b=>(b.toNat:Int))=zx l:=by
   unfold strOfNums zx;rw [List.map_map];have k:((fun n:Int=>UInt8.ofNat n.toNat) ∘ fun b:UInt8=>(b.toNat:Int))=id:=funext fun b=>by simp
   rw [k,List.map_id]
  rw [← m];exact a
theorem refNext_any (s:ByteArray)(Q:s.size≤281474976710656)(w:World) : zJ w 171 #[.string s] (.tuple #[.int .i64 (kj s.data.toList).1,.int .i64 (kj s.data.toList).2]):=by
 have M:=qI (nextGo_eq s.data.toList);have G:Hid (s.data.toList.length=s.size):=qI Wz;go_enter func171,ntmps171;go_wp2_with fail;go_loopw [4] (fun i wr=>∃ k:Nat,1≤k∧k≤5∧i = .int .i64 k∧k9 (5-k) k s.data.toList=k9 4 1 s.data.toList∧zb [] w wr) (fun i _=>5-(intOf i).toNat);case atStart=>exact⟨1,Ws,Ws,rfl,rfl,Wd⟩
 case round=>
  obtain⟨k,D,P,rfl,N,v⟩:=hrel;have C:=qI N;have A:=qI v;clear N v;by_cases F:k≤4∧k≤s.size
  ·obtain⟨I,r⟩:=F;have Y:(k:Int)≤4:=Ws;have L:(k:Int)≤s.size:=Ws;have u:k9 (5-k) k s.data.toList=if Kf (jK s.data.toList k)=true∧yo (jK s.data.toList k).toNat=s.data.toList.take k then (jK s.data.toList k,k) else k9 (5-(k+1)) (k+1) s.data.toList:=by
    rw [show 5-k=(5-(k+1))+1 by omega];conv=>lhs;unfold k9
    rw [if_pos ⟨I,by rw [G.o];exact r⟩]
   have x:=qI u;have B:=qI (code_any s k D I r Q wr);have J:Hid ((s.extract 0 k).data.toList=s.data.toList.take k):=qI (by rw [Kp s 0 k r];simp);clear u;revert x B;generalize jK s.data.toList k=c;intro x B;cases f:Kf c with
   | false=>
    have z:=qI f;clear f;go_wp2_with (go_at_call 215;refine B.o.mono ?_;rintro e w2 ⟨rfl,rfl⟩);refine yg wr Wr Wr Wd ?_;repeat go_big_quiet_step ((go_at_call 216;exact ext_same ((may_any c _).mono (by rw [z.o];exact fun _ _ h=>h))))
    refine wpQuiet_nil ?_;intro w2 t;go_wp2;case roundEnd=>refine⟨⟨k+1,Ws,Ws,by go_num,?_,A.o.then t⟩,by simp [intOf];omega⟩;rw [← C.o,x.o,if_neg (by rw [z.o];simp)]
   | true=>
    obtain⟨m,rfl,hm⟩:=Kx.1 f;have z:=qI f;have Z:=qI hm;clear f hm;go_wp2_with (go_at_call 215;refine B.o.mono ?_;rintro e w2 ⟨rfl,rfl⟩);refine zt (n:=11) (fun w':World=>zb [] wr w') 11 Wr Wr ?_;change zS _ _ _ _ _ _ _ _ _ wr.drew;have a:(fun w':World=>zb [] wr w') wr.drew:=Wd.drew;revert a;generalize wr.drew=W;intro a;refine zF ?_;intro O R j E;have b:kI R:=by subst E;exact fun _ _ _ _ _ h=>h
    refine qT 0 ?_ j rfl rfl Wr b (fun w d=>?_) a ?_;rotate_left;·exact zg
    try simp only [XI]
    refine qO 1 j rfl Wr (fun K p=>?_);go_simp;refine Calls.mono (may_any _ _) ?_;rintro e w2 ⟨rfl,rfl⟩;rw [z.o];refine p _ _ (.inr a) ?_;clear p K;try simp only [XI]
    refine qT 2 ?_ j rfl rfl Wr b (fun w d=>?_) a ?_;rotate_left;·exact zg
    try simp only [XI]
    refine qT 3 ?_ j rfl rfl Wr b (fun w d=>?_) a ?_;rotate_left;·exact zg
    try simp only [XI]
    refine qT 6 ?_ j rfl rfl Wr b (fun w d=>?_) a ?_;rotate_left;·exact zg
    try simp only [XI]
    refine qT 7 ?_ j rfl rfl Wr b (fun w d=>?_) a ?_;rotate_left;·exact zg
    try simp only [XI]
    refine qT 8 ?_ j rfl rfl Wr b (fun w d=>?_) a ?_;rotate_left;·exact zg
    try simp only [XI]
    refine qO 4 j rfl Wr (fun K p=>?_);go_simp;refine Calls.mono (refBytes_any m Z.o _) ?_;rintro e w2 ⟨⟨U,cb,rfl,H⟩,t⟩;have cv:(convert 32 9 (.slice U (yo m).length cb)).run prog w2 = .ok (.string (zx (yo m))) w2:=zp.toStr H;have q:(fun w':World=>zb [] wr w') w2:=zb.trans' a t;refine p _ _ (.inr q) ?_;clear p K;try simp only [XI]
    clear a;have a:=q;clear q H;refine qO 5 j rfl Wr (fun K p=>?_);go_simp;refine p _ _ (.inr a) ?_;clear p K;try simp only [XI]
    clear cv;by_cases l:yo m=s.data.toList.take k
    ·have X:((zx (yo m)).toList == (s.extract 0 k).toList)=true:=(vu (zak (by rw [zK,J.o,l]))).1;have y:Hid (k9 (5-k) k s.data.toList=((m:Int),k)):=qI (by rw [x.o,if_pos ⟨z.o,by rw [Int.toNat_natCast];exact l⟩]);clear l;refine qT 9 ?_ j rfl rfl Wr b (fun w d=>?_) a ?_;rotate_left;·exact zg
     try simp only [XI]
     refine qT 10 ?_ j rfl rfl Wr b (fun w d=>?_) a ?_;rotate_left;·exact zg
     try simp only [XI]
     refine zz j Wr ?_ _;subst E;try clear b j O
     go_wp2;go_ret2;rw [← M.o,← C.o,y.o];exact⟨rfl,A.o.then a⟩
    ·have X:((zx (yo m)).toList == (s.extract 0 k).toList)=false:=(jS (fun e=>l (by rw [← J.o,← e,zK]))).1;have y:Hid (k9 (5-k) k s.data.toList=k9 (5-(k+1)) (k+1) s.data.toList):=qI (by rw [x.o,if_neg (fun e=>l (by have:=e.2;rw [Int.toNat_natCast] at this;exact this))]);clear l;refine qT 9 ?_ j rfl rfl Wr b (fun w d=>?_) a ?_;rotate_left;·exact zg
     try simp only [XI]
     refine qT 10 ?_ j rfl rfl Wr b (fun w d=>?_) a ?_;rotate_left;·exact zg
     try simp only [XI]
     refine zz j Wr ?_ _;subst E;try clear b j O
     go_wp2;case roundEnd=>exact⟨⟨k+1,Ws,Ws,by go_num,by rw [← C.o,y.o],A.o.then a⟩,by simp [intOf];omega⟩
  ·have y:Hid (kj s.data.toList=(-1,0)):=qI (by
    rw [← M.o,← C.o];rcases (by omega:k=5∨(k≤4∧s.size<k)) with rfl | ⟨h1,h2⟩
    ·rfl
    ·rw [show 5-k=(4-k)+1 by omega];unfold k9;rw [if_neg (by rw [G.o];omega)])
   rcases (by omega:(5:Int)≤k∨((k:Int)≤4∧(s.size:Int)<k)) with h1 | ⟨h1,h2⟩;all_goals
    go_wp2;go_ret2;rw [y.o];exact⟨rfl,A.o⟩
theorem next_valid (h:l≠[]):((kj l).2=0∧Lib.validD l=false)∨(1≤(kj l).2∧(kj l).2≤l.length∧Lib.validD l=Lib.validD (l.drop (kj l).2)):=by
 by_cases a:(decodeL l).1=65533∧(decodeL l).2=1
 ·refine .inl ⟨?_,?_⟩;·unfold kj;rw [if_pos (.inr a)]
  ·rw [Lib.validD_step l h,if_pos a]
 ·have D:=vE h a;have e:kj l=(((decodeL l).1:Int),(decodeL l).2):=by unfold kj;rw [if_neg (by rintro (q | q);exact h q;exact a q)]
  refine .inr ⟨?_,?_,?_⟩;·rw [e];exact D.pos
  ·rw [e];exact D.le
  ·rw [e,Lib.validD_step l h,if_neg a]
theorem ZF (s:ByteArray)(F:s.size≤281474976710656)(w:World) : zJ w 122 #[.string s] (.bool (zw s)):=by
 go_enter func122,ntmps122;go_wp2_with fail;go_loopw [0] (fun x wr=>∃ t:ByteArray,x = .string t∧t.size≤s.size∧zw t=zw s∧zb [] w wr) (fun x _=>match x with | .string t=>t.size | _=>0);case atStart=>exact⟨s,rfl,XA,rfl,Wd⟩
 case round=>
  obtain⟨t,rfl,H,u,l⟩:=hrel;have m:=qI u;have p:=qI l;clear u l;by_cases G:0<t.size
  ·have A:(0:Int)<t.size:=by omega
   have d:t.data.toList.length=t.size:=Wz;have h:t.data.toList≠[]:=fun e=>by rw [e] at d;simp only [List.length_nil] at d;omega
   have j:=qI (refNext_any t Ws wr);have hv:=next_valid h;have C:Hid (∀ i,(t.extract i t.size).data.toList=t.data.toList.drop i):=qI (YG t);unfold zw at m;rw [d] at hv;clear h d;revert j hv;generalize kj t.data.toList=r;obtain⟨c,k⟩:=r;intro j hv;simp only at j hv;rcases hv with ⟨rfl,hv⟩ | ⟨z,f,hv⟩
   ·have n:Hid (zw s=false):=qI (by unfold zw;rw [← m.o,hv]);clear hv;go_wp2_with (go_at_call 171;refine j.o.mono ?_;rintro e w2 ⟨rfl,f⟩);go_ret;rw [n.o];exact⟨rfl,p.o.then f⟩
   ·have v:(1:Int)≤k:=by omega
    have q:(k:Int)≤t.size:=Ws;have E:=(jQ (a:=k) (b:=0) Ws).1;have D:=qI hv;clear hv;go_wp2_with (go_at_call 171;refine j.o.mono ?_;rintro e w2 ⟨rfl,f⟩);case roundEnd=>refine⟨⟨t.extract k t.size,rfl,by simp;omega,?_,p.o.then f⟩,by simp;omega⟩;unfold zw;rw [C.o,← D.o,m.o]
  ·have y:t.size=0:=by omega
   have n:Hid (zw s=true):=qI (by
    rw [← m.o];have:t.data.toList=[]:=List.eq_nil_of_length_eq_zero (by simpa using y);unfold zw;rw [this];rfl)
   have B:¬ (0:Int)<t.size:=Ws;clear y;go_wp2;go_ret;rw [n.o];exact⟨rfl,p.o⟩
structure ye (b:Nat)(w w':World):Prop where
 os:w'.os=w.os
 tape:w'.tape=w.tape
 output:w'.output=w.output
 size:w.heap.size≤w'.heap.size
 block:∀ k,k<w.heap.size→k≠b→kind w k≠5+2→w'.heap[k]? = w.heap[k]?
theorem ye.refl (b:Nat)(w:World):ye b w w:=⟨rfl,rfl,rfl,XA,fun _ _ _ _=>rfl⟩
theorem ye.trans {b:Nat}{x y z:World}(h:ye b x y)(k:ye b y z):ye b x z:=
 ⟨k.os.trans h.os,k.tape.trans h.tape,k.output.trans h.output,Nat.le_trans h.size k.size,fun i e a d=>by
  have f:=h.block i e a d;have h2:kind y i=kind x i:=by simp [kind,f]
  exact (k.block i (Nat.lt_of_lt_of_le e h.size) a (by rw [h2];exact d)).trans f⟩
theorem ye.of {X:List Nat}(h:zb X w w')(i:∀ k,k∈X→k=b∨kind w k=5+2):ye b w w':=
 ⟨h.os,h.tape,h.output,h.size,fun k f d a=>h.block k f (fun e=>by rcases i k e with g | g;exact d g;exact a g)⟩
theorem ye.of0 (h:zb [] w w'):ye b w w':=.of h Wz
theorem ye.heap {b:Nat}{w w':World}(h:ye b w w'){k:Nat}{o:Obj}(a:w.heap[k]? = some o)(d:k≠b)(e:kind w k≠5+2):w'.heap[k]? = some o:=
 (h.block k (lt_of_block a) d e).trans a
structure BW (T:Nat)(W:World)(b:Nat)(w:World)(l:List UInt8):Prop where
 blk:∃ p v,(p = .pointer none∨p = .pointer (some ⟨b,0,none⟩))∧w.heap[b]? = some (.cells #[p,v] T (0,0))∧w.ownsRow W.heap.size 5 1 v l.length (l.map bv)
 kept:zb [b] W w
 lt:b<W.heap.size
theorem BW.stay (h:BW T W b w l)(k:zb [] w w'):BW T W b w' l:=by
 obtain⟨p,v,hp,d,a⟩:=h.blk;exact⟨⟨p,v,hp,k.heap d Wz,zk a k Wz⟩,h.kept.then k,h.lt⟩
theorem BW.new (h:W.heap[b]? = some (.cells #[.pointer none,.slice none 0 0] T (0,0))):BW T W b W []:=
 ⟨⟨_,_,.inl rfl,h,World.ownsRow_nil _ _ _ _⟩,Wd,lt_of_block h⟩
def JV (T:Nat):Prop:=liesAt prog Tryz.prog.depth T (2/Tryz.prog.cellsOf T) 0 141 1=true
theorem xJ:JV 141:=by unfold JV;kernel_rfl
theorem xx:JV 189:=by unfold JV;kernel_rfl
theorem shape_of {c:Array Value}{t:Nat}{f:Nat×Nat}(h:w.heap[b]? = some (.cells c t f)):w.shape? b=some (t,c.size):=by simp [World.shape?,h]
theorem ptr_same (w:World)(b:Nat):(binOp .neq 139 (.pointer (some ⟨b,0,none⟩)) (.pointer (some ⟨b,0,none⟩))).run prog w = .ok (.bool false) w:=by
 have d:(Tryz.prog.info? 141).map (·.size)=some 2:=Wr;obtain⟨j,a,_⟩:=Option.map_eq_some_iff.1 d;exact Lib.run_neq_ptr_same w _ underlying139 a
theorem to_unsafe (a:w.heap[b]? = some (.cells #[p,v] T (0,0))):(convert 139 227 (.pointer (some ⟨b,0,none⟩))).run prog w = .ok (.pointer (some ⟨b,0,none⟩)) w:=by
 have f:(Tryz.prog.info? 141).map (·.size)=some 2:=Wr;obtain⟨j,d,e⟩:=Option.map_eq_some_iff.1 f;exact Lib.run_to_unsafe w ⟨b,0,none⟩ underlying139 underlying227 d (by rw [e];decide) (shape_of a) Wz
theorem from_unsafe (d:JV T)(a:w.heap[b]? = some (.cells #[p,v] T (0,0))):(convert 227 139 (.pointer (some ⟨b,0,none⟩))).run prog w = .ok (.pointer (some ⟨b,0,none⟩)) w:=by
 have f:(Tryz.prog.info? 141).map (·.size)=some 2:=Wr;obtain⟨j,e,_⟩:=Option.map_eq_some_iff.1 f;exact Lib.run_from_unsafe w ⟨b,0,none⟩ underlying227 underlying139 e (shape_of a) d
theorem bL (f:JV T)(hp:p = .pointer none∨p = .pointer (some ⟨b,0,none⟩))(a:w.heap[b]? = some (.cells #[p,v] T (0,0))) : Calls prog 147 #[.pointer (some ⟨b,0,none⟩)] w fun e w'=>e = .returned (.tuple #[])∧w'.heap[b]? = some (.cells #[.pointer (some ⟨b,0,none⟩),v] T (0,0))∧zb [b] w w':=by
 have d:=qI a;have c0:=za (o:=0) (v:=p) a rfl;have h:=zh (o:=0) a;have i:=to_unsafe a;have k:=from_unsafe f a;clear a;rcases hp with rfl | rfl
 ·go_enter func147,ntmps147;go_wp2_with fail;rw [run_callFunc_extern func190 Wr Wr Wr (e:=Extern.AbiNoEscape.same) Wr];rw [Lib.run_noEscape];simp only [Result.andThen];rw [Oper.upon_value];go_wp2_with fail;go_end0;exact⟨rfl,zd d.o rfl,Wd.setCell (.inl Wz) _⟩
 ·have j:=ptr_same w b;go_enter func147,ntmps147;go_wp2_with fail;go_end0;exact⟨rfl,d.o,Wd⟩
theorem tyByte:xG prog 32 5 1 1 (.int .u8 0):=⟨underlying32,Wr,rfl,Wo⟩
theorem BW.opened (h:BW T W b w l):∃ p a c,(p = .pointer none∨p = .pointer (some ⟨b,0,none⟩))∧w.heap[b]? = some (.cells #[p,.slice a l.length c] T (0,0))∧w.ownsRow W.heap.size 5 1 (.slice a l.length c) l.length (l.map bv):=by
 obtain⟨p,v,hp,e,d⟩:=h.blk;obtain⟨a,c,rfl,-,-⟩:=(Slc.of_row d).form;exact⟨p,a,c,hp,e,d⟩
theorem BW.wrote {x w2:World}{l':List UInt8}{a n:Option Addr}{c e q:Nat}(h:BW T W b w l)(y:w.ownsRow W.heap.size 5 1 (.slice a l.length c) l.length (l.map bv))(t:x.heap[b]? = some (.cells #[.pointer (some ⟨b,0,none⟩),.slice a l.length c] T (0,0)))(s:zb [b] w x)(j:w2.ownsRow W.heap.size 5 1 (.slice n e q) e (l'.map bv))(B:l'.length=e)(m:zb (Value.slice a l.length c).ownBlock.toList x w2) : w2.cell? ⟨b,1,none⟩=some (.slice a l.length c)∧w2.frozen? ⟨b,1,none⟩=false∧BW T W b (w2.setCell ⟨b,1,none⟩ (.slice n e q)) l'∧ye b w (w2.setCell ⟨b,1,none⟩ (.slice n e q)):=by
 subst B;have u:=h.lt;have z:b ∉ (Value.slice a l.length c).ownBlock.toList:=fun r=>by have:=(y.lt _ (XD r)).1;omega
 have d:=m.heap t z;have A:zb (b::(Value.slice a l.length c).ownBlock.toList) w (w2.setCell ⟨b,1,none⟩ (.slice n l'.length q)):=
  ((s.mono (Y:=b::(Value.slice a l.length c).ownBlock.toList) Wz).trans' (m.mono (fun i f=>List.mem_cons_of_mem _ f))).setCell (p:=⟨b,1,none⟩) (.inl (List.mem_cons_self ..)) _
 refine⟨za d rfl,zh d,⟨⟨_,_,.inr rfl,zd d rfl,?_⟩,?_,u⟩,ye.of A ?_⟩
 ·exact zk j ((zb.refl [b] w2).setCell (p:=⟨b,1,none⟩) (.inl Wz) _) (fun g C r=>by
   simp at r;have:=(j.lt g C).1;omega)
 ·exact h.kept.trans A (fun i f=>by
   rcases List.mem_cons.1 f with rfl | f;·exact .inl Wz
   ·exact .inr (y.lt i (XD f)).1)
 ·intro k v;rcases List.mem_cons.1 v with rfl | v;·exact .inl rfl
  ·exact .inr (yA y (XD v))
theorem qd (B:JV T)(h:BW T W b w l)(F:l.length≤100000000)(x:UInt8) : Calls prog 99 #[.pointer (some ⟨b,0,none⟩),.int .u8 x.toNat] w fun e w'=>e = .returned .nilIface∧BW T W b w' (l++[x])∧ye b w w':=by
 obtain⟨p,a,c,hp,s,t⟩:=h.opened;have H:=qI h;have m:=qI t;have C:=qI (bL B hp s);have r:Hid (b<W.heap.size∧W.heap.size≤w.heap.size):=qI ⟨h.lt,h.kept.size⟩;clear h hp s t;go_enter func99,ntmps99;go_wp2_with (first
  | (go_at_call 147;refine C.o.mono ?_;rintro e k ⟨rfl,f,i⟩;have c1:=za (o:=1) (v:=.slice a l.length c) f rfl;have D:=qI f;have n:=qI i;clear f i)
  | (at_builtin;refine zG tyByte (zk m.o (n.o.then ((zb.refl [] k).alloc (.cells #[.int .u8 x.toNat] 5))) (by intro g y u;have E:=(m.o.lt g y).1;have h2:=r.o;simp at u;omega)) (ZV k (bv x) 5 _ rfl) (by simp [bv,Value.oneCell']) (by simp only [maxLen];omega) Ws (by have E:=r.o;have h2:=n.o.size;simp;omega) rfl _ _ rfl rfl rfl ?_;intro v2 w2 d j _ q;obtain⟨a2,c2,rfl,-,-⟩:=(Slc.of_row d).form;obtain⟨g1,g2,g3,g4⟩:=BW.wrote (l':=l++[x]) H.o m.o (((zb.refl [] k).alloc (.cells #[.int .u8 x.toNat] 5)).heap D.o Wz) (n.o.then ((zb.refl [] k).alloc (.cells #[.int .u8 x.toNat] 5))) (by rw [List.map_append];exact d) Wz j;have A:=qI g3;have z:=qI g4;clear d j q g3 g4))
 go_ret;exact⟨rfl,A.o,z.o⟩
theorem vg (L:JV T)(h:BW T W b w l)(P:l.length≤100000000)(s:ByteArray)(N:s.size≤100000000) : Calls prog 191 #[.pointer (some ⟨b,0,none⟩),.string s] w fun e w'=>e = .returned (.tuple #[.int .i64 s.size,.nilIface])∧BW T W b w' (l++s.data.toList)∧ye b w w':=by
 obtain⟨p,a,c,hp,z,y⟩:=h.opened;obtain⟨F,A,j,q,n⟩:=info_parts tyByte.info;have H:=qI h;have r:=qI y;have D:=qI A;have t:=qI (And.intro j (And.intro q n));have C:=qI (bL L hp z);have x:Hid (b<W.heap.size∧W.heap.size≤w.heap.size):=qI ⟨h.lt,h.kept.size⟩;have B:Hid (s.data.toList.length=s.size):=qI Wz;clear h hp z y A j q n;go_enter func191,ntmps191;go_wp2_with (first
  | (go_at_call 147;refine C.o.mono ?_;rintro e O ⟨rfl,f,i⟩;have c1:=za (o:=1) (v:=.slice a l.length c) f rfl;have M:=qI f;have u:=qI i;clear f i)
  | (at_builtin;refine Lib.wpList_append_own_string _ rfl _ _ 32 9 rfl W.heap.size 5 F underlying32 underlying9 D.o t.o.1 t.o.2.1 t.o.2.2 (.slice a l.length c) l.length (l.map bv) rfl (zk r.o u.o (by intro g I G;have E:=(r.o.lt g I).1;have h2:=x.o;simp at G;omega)) s rfl (by simp only [maxLen];omega) Ws (by have E:=x.o;have h2:=u.o.size;omega) ?_;intro v2 w2 d m _;obtain⟨a2,c2,rfl,-,-⟩:=(Slc.of_row d).form;obtain⟨g1,g2,g3,g4⟩:=BW.wrote (l':=l++s.data.toList) H.o r.o M.o u.o (by rw [List.map_append];exact d) (by rw [List.length_append,B.o]) (Wd.grown m (fun k e=>.inl (by simp [e])));have K:=qI g3;have J:=qI g4;clear d m g3 g4))
 go_ret2;exact⟨rfl,K.o,J.o⟩
theorem Q7 (m:Nat)(hm:m<55296∨(57344≤m∧m≤1114111)):Lib.runeCells m=(yo m).map bv:=by
 rw [← zac m hm];unfold Lib.runeCells kU;by_cases a:m<128;·rw [Lib.encodeRuneZ_one Ws Ws,if_pos Ws];rfl
 by_cases h2:m<2048;·rw [Lib.encodeRuneZ_two Ws Ws,if_neg Ws,if_pos Ws];rfl
 by_cases h3:m<65536;·rw [Lib.encodeRuneZ_three Ws,if_neg Ws,if_neg Ws,if_pos Ws];rfl
 ·rw [Lib.encodeRuneZ_four Ws Ws,if_neg Ws,if_neg Ws,if_neg Ws];rfl
theorem wrune_any (I:JV T)(h:BW T W b w l)(L:l.length≤100000000)(m:Nat)(hm:m<55296∨(57344≤m∧m≤1114111)) : Calls prog 251 #[.pointer (some ⟨b,0,none⟩),.int .i32 m] w fun e w'=>(∃ k,e = .returned (.tuple #[k,.nilIface]))∧BW T W b w' (l++yo m)∧ye b w w':=by
 obtain⟨p,a,c,hp,t,s⟩:=h.opened;have H:=qI h;have n:=qI s;have z:=qI (bL I hp t);have r:Hid (b<W.heap.size∧W.heap.size≤w.heap.size):=qI ⟨h.lt,h.kept.size⟩;have A:=qI (Q7 m hm);have C:Hid ((Lib.runeCells m).length=(yo m).length):=qI (by rw [Q7 m hm,List.length_map]);have K:(yo m).length≤4:=(km m hm).2.2.1;have x:Hid ((m:Int)≤1114111):=qI Ws;clear h hp t s hm;go_enter func251,ntmps251;go_wp2_with (first
  | (go_at_call 147;refine z.o.mono ?_;rintro e y ⟨rfl,f,i⟩;have c1:=za (o:=1) (v:=.slice a l.length c) f rfl;have J:=qI f;have q:=qI i;clear f i)
  | (go_at_call 262;refine (Any.utf8_AppendRune_plain Tryz.shAppendRune Wr W.heap.size (.slice a l.length c) l.length (l.map bv) (m:Int) (XC x.o) (XC x.o) y (zk n.o q.o (by intro g F E;have D:=(n.o.lt g F).1;have h2:=r.o;simp at E;omega)) Ws (by have D:=r.o;have h2:=q.o.size;omega)).mono ?_;rintro e w2 ⟨v2,rfl,d,B,j⟩;obtain⟨a2,c2,rfl,-,-⟩:=(Slc.of_row d).form;obtain⟨g1,g2,g3,g4⟩:=BW.wrote (l':=l++yo m) H.o n.o J.o q.o (by rw [List.map_append,← A.o];exact d) (by rw [List.length_append,C.o]) ((Wd.alloc B).grown j (fun k e=>.inl (by simp [e])));have u:=qI g3;have G:=qI g4;obtain⟨p5,v5,-,hb5,-⟩:=u.o.blk;clear d j g3 g4))
 go_ret2;exact⟨⟨_,rfl⟩,u.o,G.o⟩
theorem J0 {g:Nat}(n:Nat):zb [g] w (w.freeze ⟨g,0,none⟩ n):=by
 have h:=Lib.below_freeze (Below.refl 0 w) (p:=⟨g,0,none⟩) (XB) n;refine⟨h.os,h.tape,h.output,h.size,fun k b a=>?_⟩;unfold World.freeze;split;·rfl
 ·simp only [Array.getElem?_modify];rw [if_neg (by simp at a;omega)]
theorem bD (h:BW T W b w l)(hl:l.length≤100000000)(P:l≠[]) : Calls prog 100 #[.pointer (some ⟨b,0,none⟩)] w fun e w'=>e = .returned (.string (zx l))∧zb [b] W w'∧ye b w w':=by
 obtain⟨p,a,c,hp,U,I⟩:=h.opened;have Gc:Hid (b<W.heap.size∧W.heap.size≤w.heap.size):=qI ⟨h.lt,h.kept.size⟩;have Gv:=qI h.kept;have c1:=za (o:=1) (v:=.slice a l.length c) U rfl;have z:l.length≠0:=by simpa using P
 obtain⟨g,cap,m,hv,Y,A,G,N,H,y⟩:∃ g cap m,(Value.slice a l.length c) = .slice (some ⟨g,0,none⟩) l.length cap∧W.heap.size≤g∧w.heap[g]? = some (.cells m 5 (0,0))∧l.length≤cap∧cap≤maxLen∧m.size=cap*1∧m.toList.take (l.length*1)=l.map bv:=by
  rcases I.2 with ⟨_,hz⟩ | ⟨g,cap,m,hv,r1,r2,r3,r4,r5,r6⟩;·exact absurd hz z
  ·exact⟨g,cap,m,hv,r1,r2,r3,r4,r5,r6⟩
 simp only [Value.slice.injEq] at hv;obtain⟨rfl,-,rfl⟩:=hv;have q:∀ j x,l[j]? = some x→w.drew.cell? ((⟨g,0,none⟩:Addr).add j)=some (.int .u8 x.toNat):=by
  intro j x hx;have h2:=(Slc.of_row I).2;rcases h2 with ⟨h3,_⟩ | ⟨h3,_⟩ | ⟨g',o',X,B,_,_,q⟩;·cases h3
  ·exact absurd h3 z
  ·simp only [Value.slice.injEq,Option.some.injEq,Addr.mk.injEq] at B;obtain⟨⟨rfl,rfl,-⟩,-,-⟩:=B;exact q.adds j (bv x) (by simp [hx])
 have s:∀ J:World,(Builtin.unsafeSliceData_ #[32] 186 #[.slice (some ⟨g,0,none⟩) l.length c]).run prog J = .ok (.pointer (some ⟨g,0,none⟩)) J:=fun J=>Lib.run_unsafeSliceData_row _ _ _ _ _ _ Ws;have t:(Builtin.unsafeString_ #[186,3] 9 #[.pointer (some ⟨g,0,none⟩),.int .i64 l.length]).run prog w.drew = .ok (.string (zx l)) (w.drew.freeze ⟨g,0,none⟩ l.length):=
  Lib.run_unsafeString_row w.drew 186 3 9 5 underlying186 Wr g m.size (by have L:w.drew.heap[g]? = some (.cells m 5 (0,0)):=A;simp [World.shape?,L]) l P Ws Ws q
 have E:Hid (zb [g] w (w.drew.freeze ⟨g,0,none⟩ l.length)):=qI ((zb.refl [g] w).drew.trans' (J0 l.length));have Z:Hid (W.heap.size≤g∧kind w g=5+2):=qI ⟨Y,zU A⟩;have Gj:=qI s;have F:=qI t;have M:b≠g:=XC Gc.o;clear h hp U I A G N H y q z s t Y P;go_enter func100,ntmps100;go_wp2_with fail;refine zt (n:=12) (fun w':World=>w'.cell? ⟨b,1,none⟩=some (.slice (some ⟨g,0,none⟩) l.length c)) 11 Wr Wr ?_;change zS _ _ _ _ _ _ _ _ _ w.drew;have d:(fun w':World=>w'.cell? ⟨b,1,none⟩=some (.slice (some ⟨g,0,none⟩) l.length c)) w.drew:=c1;clear c1;revert d F E;generalize w.drew=W2;intro E F d;refine zF ?_;intro O R r Q;have f:kI R:=by subst Q;exact fun _ _ _ _ _ h=>h
 refine qT 0 ?_ r rfl rfl Wr f (fun w k=>?_) d ?_;rotate_left;·exact zg
 try simp only [XI]
 refine qT 1 ?_ r rfl rfl Wr f (fun w k=>?_) d ?_;rotate_left;·exact zg
 try simp only [XI]
 refine qT 2 ?_ r rfl rfl Wr f (fun w k=>?_) d ?_;rotate_left;·exact zg
 try simp only [XI]
 refine qT 3 ?_ r rfl rfl Wr f (fun w k=>?_) d ?_;rotate_left;·exact zg
 try simp only [XI]
 refine qT 5 ?_ r rfl rfl Wr f (fun w k=>?_) d ?_;rotate_left;·exact zg
 try simp only [XI]
 refine qT 6 ?_ r rfl rfl Wr f (fun w k=>?_) d ?_;rotate_left;·exact zg
 try simp only [XI]
 refine qT 7 ?_ r rfl rfl Wr f (fun w k=>?_) d ?_;rotate_left;·exact zg
 try simp only [XI]
 refine qT 8 ?_ r rfl rfl Wr f (fun w k=>?_) d ?_;rotate_left;·exact zg
 try simp only [XI]
 refine qT 9 ?_ r rfl rfl Wr f (fun w k=>?_) d ?_;rotate_left;·exact zg
 try simp only [XI]
 have s:=Gj.o;refine qT 4 ?_ r rfl rfl Wr f (fun w k=>?_) d ?_;rotate_left;·exact zg
 try simp only [XI]
 have t:=F.o;refine qO 10 r rfl Wr (fun K D=>?_);go_simp;have u:(fun w':World=>w'.cell? ⟨b,1,none⟩=some (.slice (some ⟨g,0,none⟩) l.length c)) (W2.freeze ⟨g,0,none⟩ l.length):=(J0 l.length).cell d (by simpa using M);refine D _ _ (.inr u) ?_;clear D K;try simp only [XI]
 clear d;have d:=u;clear u s t;refine qO 11 r rfl Wr (fun K D=>?_);go_simp;refine D _ _ (.inl rfl) ?_;clear D K;try simp only [XI]
 refine zz r Wr ?_ _;subst Q;try clear f r O
 go_wp2;go_ret;refine⟨rfl,Gv.o.trans E.o (fun i C=>by simp at C;subst C;exact .inr Z.o.1),ye.of E.o (fun i C=>by simp at C;subst C;exact .inr Z.o.2)⟩
theorem bstring_new (s:w.heap[b]? = some (.cells #[p,.slice none 0 0] T (0,0))) : zJ w 100 #[.pointer (some ⟨b,0,none⟩)] (.string (zx [])):=by
 have c1:=za (o:=1) (v:=.slice none 0 0) s rfl;have i:∀ m:World,(Builtin.unsafeSliceData_ #[32] 186 #[.slice none 0 0]).run prog m = .ok (.pointer none) m:=fun m=>Lib.run_unsafeSliceData_nil _ _ _ _ _;have j:(Builtin.unsafeString_ #[186,3] 9 #[.pointer none,.int .i64 0]).run prog w.drew = .ok (.string .empty) w.drew:=Lib.run_unsafeString_none _ _ _ _ _;have t:=qI i;have l:=qI j;have q:Hid (zb [] w w.drew):=qI (zb.refl [] w).drew;clear s i j;go_enter func100,ntmps100;go_wp2_with fail;refine zt (n:=12) (fun w':World=>w'.cell? ⟨b,1,none⟩=some (.slice none 0 0)) 11 Wr Wr ?_;change zS _ _ _ _ _ _ _ _ _ w.drew;have a:(fun w':World=>w'.cell? ⟨b,1,none⟩=some (.slice none 0 0)) w.drew:=c1;clear c1;revert a l q;generalize w.drew=W2;intro l q a;refine zF ?_;intro O R f r;have d:kI R:=by subst r;exact fun _ _ _ _ _ h=>h
 refine qT 0 ?_ f rfl rfl Wr d (fun w e=>?_) a ?_;rotate_left;·exact zg
 try simp only [XI]
 refine qT 1 ?_ f rfl rfl Wr d (fun w e=>?_) a ?_;rotate_left;·exact zg
 try simp only [XI]
 refine qT 2 ?_ f rfl rfl Wr d (fun w e=>?_) a ?_;rotate_left;·exact zg
 try simp only [XI]
 refine qT 3 ?_ f rfl rfl Wr d (fun w e=>?_) a ?_;rotate_left;·exact zg
 try simp only [XI]
 refine qT 5 ?_ f rfl rfl Wr d (fun w e=>?_) a ?_;rotate_left;·exact zg
 try simp only [XI]
 refine qT 6 ?_ f rfl rfl Wr d (fun w e=>?_) a ?_;rotate_left;·exact zg
 try simp only [XI]
 refine qT 7 ?_ f rfl rfl Wr d (fun w e=>?_) a ?_;rotate_left;·exact zg
 try simp only [XI]
 refine qT 8 ?_ f rfl rfl Wr d (fun w e=>?_) a ?_;rotate_left;·exact zg
 try simp only [XI]
 refine qT 9 ?_ f rfl rfl Wr d (fun w e=>?_) a ?_;rotate_left;·exact zg
 try simp only [XI]
 have i:=t.o;refine qT 4 ?_ f rfl rfl Wr d (fun w e=>?_) a ?_;rotate_left;·exact zg
 try simp only [XI]
 have j:=l.o;refine qO 10 f rfl Wr (fun K k=>?_);go_simp;refine k _ _ (.inr a) ?_;clear k K;try simp only [XI]
 clear i j;refine qO 11 f rfl Wr (fun K k=>?_);go_simp;refine k _ _ (.inl rfl) ?_;clear k K;try simp only [XI]
 refine zz f Wr ?_ _;subst r;try clear d f O
 go_wp2;go_ret;exact⟨rfl,q.o⟩
def zbf (z:Int):Int:=if 48≤z∧z≤57 then z-48 else if 97≤z∧z≤102 then z-97+10 else -1
theorem dig1_low (c:UInt8):(yW c=true→zbf c.toNat=(hv c:Int)∧hv c<16)∧(yW c=false→zbf c.toNat = -1):=by
 have h:∀ n:Fin 256,(yW (UInt8.ofNat n.val)=true→zbf (UInt8.ofNat n.val).toNat=(hv (UInt8.ofNat n.val):Int)∧hv (UInt8.ofNat n.val)<16)∧(yW (UInt8.ofNat n.val)=false→zbf (UInt8.ofNat n.val).toNat = -1):=by decide +kernel
 have:=h ⟨c.toNat,c.toNat_lt⟩;simpa only [UInt8.ofNat_toNat] using this
theorem index_str (a:P.underlying t=some .string)(s:ByteArray)(m:Nat)(h:m<s.data.toList.length)(W:World):(Instr.index t (.string s) (.int .i64 m)).run P W = .ok (.int .u8 s.data.toList[m].toNat) W:=by
 rw [run_index_string _ t s .i64 m a,dif_pos ⟨Ws,by simp only [Array.length_toList] at h;have:s.data.size=s.size:=rfl;omega⟩];rfl
theorem index_str1 (a:P.underlying t=some .string)(s:ByteArray)(m:Nat)(h:m+1<s.data.toList.length)(W:World):(Instr.index t (.string s) (.int .i64 ((m:Int)+1))).run P W = .ok (.int .u8 s.data.toList[m+1].toNat) W:=index_str a s (m+1) h W
theorem hex_join16 (x y:Nat)(a:x<16)(b:y<16):Value.int .u8 ((16*(x:Int)+y)%256)=bv (UInt8.ofNat (x*16+y)):=by
 unfold bv;congr 1;have:(UInt8.ofNat (x*16+y)).toNat=x*16+y:=by simp [UInt8.toNat_ofNat'];omega
 rw [this];omega
theorem QB (z:Int)(l:0≤z)(n:z≤255)(w:World):Calls prog 73 #[.int .u8 z] w fun e w'=>e = .returned (.int .i64 (zbf z))∧w=w':=by
 by_cases c1:48≤z∧z≤57;·have a:Hid (zbf z=z-48):=qI (by unfold zbf;rw [if_pos c1]);obtain⟨f,h⟩:=c1;go_enter func73,ntmps73;go_wp2;go_ret;exact⟨Qi a.o.symm,rfl⟩
 by_cases c2:97≤z∧z≤102;·have a:Hid (zbf z=z-97+10):=qI (by unfold zbf;rw [if_neg c1,if_pos c2]);obtain⟨f,h⟩:=c2;have k:¬ z≤57:=Ws;clear c1;go_enter func73,ntmps73;go_wp2;go_ret;exact⟨Qi a.o.symm,rfl⟩
 have a:Hid (zbf z = -1):=qI (by unfold zbf;rw [if_neg c1,if_neg c2]);have i:z<48∨(57<z∧z<97)∨102<z:=Ws;clear c1 c2;rcases i with g | ⟨g,m⟩ | g
 ·have d:¬ 48≤z:=by omega
  have b:¬ 97≤z:=Ws;go_enter func73,ntmps73;go_wp2;go_ret;exact⟨Qi a.o.symm,rfl⟩
 ·have k0:48≤z:=by omega
  have d:¬ z≤57:=Ws;have b:¬ 97≤z:=Ws;go_enter func73,ntmps73;go_wp2;go_ret;exact⟨Qi a.o.symm,rfl⟩
 ·have k0:48≤z:=by omega
  have d:¬ z≤57:=Ws;have b:97≤z:=Ws;have j:¬ z≤102:=Ws;go_enter func73,ntmps73;go_wp2;go_ret;exact⟨Qi a.o.symm,rfl⟩
theorem tyB1:xG prog 32 5 1 1 (.int .u8 0):=⟨underlying32,Wr,rfl,Wo⟩
def UnhexR (w w':World)(e:Ending):Option (List UInt8)→Prop
 | none=>e = .returned (.tuple #[.slice none 0 0,.bool false])
 | some l=>∃ a c,e = .returned (.tuple #[.slice a l.length c,.bool true])∧zp w' (.slice a l.length c) l∧∀ g,yx (.slice a l.length c)=some g→w.heap.size≤g
theorem Kd (s:ByteArray)(hs:s.size≤140737488355328)(w:World):Calls prog 28 #[.string s] w fun e w'=>UnhexR w w' e (xo s)∧zb [] w w':=by
 obtain⟨z,HZ⟩:=XE s.size;have HL:Hid (s.data.toList.length=s.size):=qI Wz;have HU:Hid (xo s=if s.size%2=0∧s.data.toList.all yW=true then some (xh s.data.toList) else none):=qI rfl;have HP:=qI (ZE s.data.toList);have Gw:=qI (YY s.data.toList);have aj:(s.size:Int)≤140737488355328:=Ws;have Gn:Hid (∀ (j:Nat) (h:j<s.data.toList.length),yW s.data.toList[j]=false→xo s=none):=qI (fun j h hl=>by
  rw [HU.o,if_neg];rintro ⟨-,ha⟩;have:=List.all_eq_true.1 ha _ (List.getElem_mem h);rw [hl] at this;cases this)
 have U:=qI hs;clear hs;go_enter func28,ntmps28;go_wp2_with fail;go_loopw [4,5] (fun out i wr=>∃ (m k:Nat) (a:Option Addr) (c:Nat),i = .int .i64 m∧Hid (m=2*k∧m≤s.size)∧out = .slice a k c∧wr.ownsRow w.heap.size 5 1 (.slice a k c) k (((xh s.data.toList).take k).map bv)∧Hid (∀ (j:Nat) (h:j<s.data.toList.length),j<m→yW s.data.toList[j]=true)∧zb [] w wr) (fun _ i _=>s.size-(intOf i).toNat);case atStart=>exact⟨0,0,none,0,rfl,qI ⟨rfl,XB⟩,rfl,World.ownsRow_nil _ _ _ _,qI (fun j h hj=>by omega),Wd⟩
 case round=>
  obtain⟨m,k,a,c,rfl,C,rfl,d,Gi,Y⟩:=hrel;have Ge:=qI d;have J:=qI Y;clear d Y;by_cases D:m<s.size
  ·have ag:(m:Int)<s.size:=by omega
   by_cases u:m+1<s.size;rotate_left
   ·have aa:(s.size:Int)≤(m:Int)+1:=by omega
    have B:Hid (xo s=none):=qI (by rw [HU.o,if_neg];rintro ⟨h1,-⟩;have:=C.o.1;omega);clear u D;go_wp2;go_ret2;rw [B.o];exact⟨rfl,J.o⟩
   have aa:(m:Int)+1<s.size:=Ws;have G:m<s.data.toList.length:=by rw [HL.o];exact D
   have A:m+1<s.data.toList.length:=by rw [HL.o];exact u
   have Z:=qI (index_str underlying9 s m G);have P:=qI (index_str1 underlying9 s m A);have N1:=qI (Gn.o m G);have N2:=qI (Gn.o (m+1) A);have L:=qI (dig1_low s.data.toList[m]);have K:=qI (dig1_low s.data.toList[m+1]);have L1:Hid (yW s.data.toList[m]=true→yW s.data.toList[m+1]=true→∀ (j:Nat) (h:j<s.data.toList.length),j<m+2→yW s.data.toList[j]=true):=qI (fun g1 g2 j h hj=>by
    rcases Nat.lt_or_ge j m with q | q;·exact Gi.o j h q
    ·obtain rfl | rfl:j=m∨j=m+1:=by omega
     ·exact g1
     ·exact g2)
   have f:=qI (QB (s.data.toList[m].toNat:Int) Ws (XC (s.data.toList[m].toNat_lt)));have t:=qI (QB (s.data.toList[m+1].toNat:Int) Ws (XC (s.data.toList[m+1].toNat_lt)));have X:2*k+1<s.data.toList.length:=by rw [← C.o.1];exact A
   obtain⟨p1,p2⟩:=Gw.o k X;have B:Hid ((xh s.data.toList).take (k+1)=(xh s.data.toList).take k++[UInt8.ofNat (hv s.data.toList[m]*16+hv s.data.toList[m+1])]):=qI (by
    rw [List.take_succ_eq_append_getElem p1,p2];simp only [C.o.1])
   have Gp:Hid (m+1<s.size):=qI u;clear p1 p2 X;revert Z P N1 N2 L K L1 f t B;generalize s.data.toList[m]=xb;generalize s.data.toList[m+1]=yb;intro Z P N1 N2 L K L1 f t B;obtain⟨px,HX⟩:∃ px:Int,Hid (px=xb.toNat):=⟨_,qI rfl⟩;obtain⟨py,HY⟩:∃ py:Int,Hid (py=yb.toNat):=⟨_,qI rfl⟩;rw [← HX.o] at Z f L;rw [← HY.o] at P t K;clear G A u D;have E:=Z.o;have ae:=P.o;rcases Bool.eq_false_or_eq_true (yW xb) with e1 | e1
   rotate_left;·have Gk:=qI (N1.o e1);rw [L.o.2 e1] at f;go_wp2_with (go_at_call 73;refine (f.o _).mono ?_;rintro e M ⟨rfl,rfl⟩);go_ret2;rw [Gk.o];exact⟨rfl,J.o⟩
   obtain⟨W,p⟩:=L.o.1 e1;rcases Bool.eq_false_or_eq_true (yW yb) with e2 | e2;rotate_left
   ·have Gk:=qI (N2.o e2);rw [K.o.2 e2] at t;rw [W] at f;clear W p;generalize hv xb=l at *;go_wp2_with first
     | (have Gx:=I;go_at_call 73;refine (t.o _).mono ?_;rintro e M ⟨rfl,rfl⟩)
     | (go_at_call 73;refine (f.o _).mono ?_;rintro e M ⟨rfl,rfl⟩;have I:=True.intro)
    go_ret2;rw [Gk.o];exact⟨rfl,J.o⟩
   obtain⟨d2,y⟩:=K.o.1 e2;rw [W] at f;rw [d2] at t;have Gy:=qI (L1.o e1 e2);clear W d2 L K e1 e2 L1 N1 N2;revert f t B p y;generalize hv xb=l;generalize hv yb=hy;intro B f t p y;have H:=qI p;have R:=qI y;clear p y;go_upto_region 7 with first
    | (have Gx:=I;go_at_call 73;refine (t.o _).mono ?_;rintro e M ⟨rfl,rfl⟩)
    | (go_at_call 73;refine (f.o _).mono ?_;rintro e M ⟨rfl,rfl⟩;have I:=True.intro)
   clear E ae;obtain⟨bb,Gq⟩:=XE (UInt8.ofNat (l*16+hy));rw [← Gq.o] at B
   refine bM (n:=48) 14 [fI (.slice a k c),
    fI (.string s),
    fI (.int .i64 m),
    fI (.int .u8 px),
    fI (.int .i64 l),
    fI (.int .i64 (16*l)),
    fI (.string s),
    fI (.int .i64 m),
    fI (.int .i64 (m+1)),
    fI (.int .u8 py),
    fI (.int .i64 hy),
    fI (.int .i64 (16*l+hy)),
    fI (.int .u8 (bb.toNat:Int)),
    kP [bv bb] 1 1] Wr rfl Wr (fun x=>qm) (fun x l=>by rw [show x 15 = .slice a k c from l 15 Wo Wo]) ?_ ?_
   ·refine⟨?_,?_,?_,?_,?_,?_,?_,?_,?_,?_,?_,?_,?_,?_,trivial⟩ <;> intro x w2 F b hd;·exact zi
    ·exact zi
    ·exact zi
    ·have W:x 1=_:=hd 1 Wr;have d2:x 2=_:=hd 2 Wr;have E:=Z.o w2;exact zi
    ·have d3:x 3=_:=hd 3 Wr;have CX:=f.o w2;go_wp2_with (go_at_call 73;refine CX.mono ?_;rintro e M ⟨rfl,rfl⟩);exact⟨rfl,Wd⟩
    ·have d4:x 4=_:=hd 4 Wr;have ad:(l:Int)<16:=XC H.o;exact zi
    ·exact zi
    ·exact zi
    ·have d7:x 7=_:=hd 7 Wr;exact zi
    ·have d6:x 6=_:=hd 6 Wr;have d8:x 8=_:=hd 8 Wr;have E:=P.o w2;exact zi
    ·have d9:x 9=_:=hd 9 Wr;have CX:=t.o w2;go_wp2_with (go_at_call 73;refine CX.mono ?_;rintro e M ⟨rfl,rfl⟩);exact⟨rfl,Wd⟩
    ·have d5:x 5=_:=hd 5 Wr;have al:x 10=_:=hd 10 Wr;have ad:(l:Int)<16:=XC H.o;have ak:(hy:Int)<16:=XC R.o;exact zi
    ·have ai:x 11=_:=hd 11 Wr;have HJ:Hid (Value.int .u8 ((16*(l:Int)+hy)%256)=bv bb):=qI (by rw [Gq.o];exact hex_join16 l hy H.o R.o);go_wp2_with fail;refine⟨?_,Wd⟩;exact HJ.o
    ·have ah:x 12=_:=hd 12 Wr;go_wp2;exact⟨⟨w2.heap.size,rfl,XA,Wz,ZV w2 _ _ _ rfl⟩,Wd.alloc _⟩
   ·intro x9 w7 F b hd Q;have d0:x9 0=_:=hd 0 Wo;obtain⟨g9,ab,g1,g2,O⟩:=hd 13 Wo;have Gz:=qI O;have Gl:=qI F;clear hd Q F O g1 g2;change wpList _ _ _ [_,_] _ _;go_wp2_with (at_builtin;refine zG tyB1 (v:=.slice a k c) (n:=k) (zk Ge.o Gl.o Wz) Gz.o (by simp [bv,Value.oneCell']) (by simp only [maxLen];have:=U.o;have:=C.o;omega) (XH U.o C.o) (by have:=J.o.size;have:=Gl.o.size;simp;omega) rfl _ _ rfl d0 ab ?_;intro v5 w8 r N _ af;obtain⟨a5,c5,rfl,-,-⟩:=(Slc.of_row r).form;have Gm:=qI r;have Ja:=qI N;clear r N af);case roundEnd=>refine⟨⟨m+2,k+1,a5,c5,by go_num,qI (XH C.o Gp.o),rfl,by rw [B.o,List.map_append];exact Gm.o,Gy,(J.o.then Gl.o).trans Ja.o (fun i hi=>.inr (Ge.o.lt i (XD hi)).1)⟩,by have:=Gp.o;simp [intOf];omega⟩
  ·have HE:Hid (xo s=some (xh s.data.toList)):=qI (by
    have h1:=C.o;rw [HU.o,if_pos ⟨Ws,List.all_eq_true.2 (fun c hc=>by
     obtain⟨j,hj,rfl⟩:=List.getElem_of_mem hc;exact Gi.o j hj (by rw [HL.o] at hj;omega))⟩])
   have Gr:Hid (k=(xh s.data.toList).length):=qI (by have h1:=C.o;rw [HP.o,HL.o];omega);go_wp2;go_ret2;rw [HE.o];have d:=Ge.o;rw [Gr.o,List.take_length] at d;refine⟨⟨a,c,by rw [← Gr.o];rfl,Slc.of_row d,fun g hg=>(d.lt g (yI hg)).1⟩,J.o⟩
end Go.Proofs.YtjccecajigmfkaaGreatDoor

/- Parts of one proof, merged: XSh XK3C XBu XSl. -/
import Derived.Shelf.Strings.Prefix
import Derived.Shelf.Small.Strs
import Derived.Shelf.Small.Utf8
import Derived.Shelf.Small.Wraps
import Derived.Shelf.Strconv.Itoa3
import Derived.Shelf.Strings.CaseAny
import Derived.Shelf.Unicode.DecodeAny
import Derived.Shelf.Unicode.ValidAny
import Derived.Shelf.Utf8.AppendRunePlain
import Derived.Shelf.Strings.SlTrimAscii
import Derived.Shelf.Strings.OnBuilder
import Derived.Shelf.SlicesQ.IndexFunc
import Derived.Shelf.SlGeneric
import Derived.Ground.NamesProg
import Derived.Ground.SlgfProg
import Derived.Test.YtjccecajigmfkaaGreatDoorProg
import Derived.Test.YtjccecajigmfkaaGreatDoorSdF
import Derived.Laws.BytesArg
import Derived.Lib.UnsafeStr
import Derived.Lib.AppendStr
import Derived.Lib.SmallJoins
set_option linter.all false
set_option maxHeartbeats 12800000
set_option maxRecDepth 10000
namespace Go.Proofs
open Go.Shelf
def Tryz.shHasPrefix_ren:Go.Shelf.Ren:=⟨fun | 99=>218 | 206=>249 | n=>n,fun | 9=>9 | 4=>4 | 3=>3 | n=>n,fun | n=>n⟩
theorem Tryz.shHasPrefix:Go.Proofs.Lays.n99 prog Tryz.shHasPrefix_ren:={
 mixed:=Wr
 f99:=func218.trans Wr
 f206:=func249.trans Wr
 t3:=underlying3
 a3:=isAgg3
 z3:=sizeOf3
 v3:=zeroValue3
 t4:=underlying4
 a4:=isAgg4
 z4:=sizeOf4
 v4:=zeroValue4
 t9:=underlying9
 a9:=isAgg9
 z9:=sizeOf9
 v9:=zeroValue9 }
def Tryz.shIndexByte_ren:Go.Shelf.Ren:=⟨fun | 137=>104 | 217=>157 | 266=>202 | n=>n,fun | 9=>9 | 5=>5 | 3=>3 | n=>n,fun | n=>n⟩
theorem Tryz.shIndexByte:Go.Proofs.Lays.n137 prog Tryz.shIndexByte_ren:={
 mixed:=Wr
 f137:=func104.trans Wr
 f217:=func157.trans Wr
 f266:=func202.trans Wr
 t3:=underlying3
 a3:=isAgg3
 z3:=sizeOf3
 v3:=zeroValue3
 t5:=underlying5
 a5:=isAgg5
 z5:=sizeOf5
 v5:=zeroValue5
 t9:=underlying9
 a9:=isAgg9
 z9:=sizeOf9
 v9:=zeroValue9 }
def Tryz.shValidRune_ren:Go.Shelf.Ren:=⟨fun | 119=>255 | n=>n,fun | 21=>21 | 4=>4 | n=>n,fun | n=>n⟩
theorem Tryz.shValidRune:Go.Proofs.Lays.n119 prog Tryz.shValidRune_ren:={
 mixed:=Wr
 f119:=func255.trans Wr
 t4:=underlying4
 a4:=isAgg4
 z4:=sizeOf4
 v4:=zeroValue4
 t21:=underlying21
 a21:=isAgg21
 z21:=sizeOf21
 v21:=zeroValue21 }
def Tryz.shFormatBool_ren:Go.Shelf.Ren:=⟨fun | 121=>192 | 214=>236 | n=>n,fun | 4=>4 | 9=>9 | n=>n,fun | n=>n⟩
theorem Tryz.shFormatBool:Go.Proofs.Lays.n121 prog Tryz.shFormatBool_ren:={
 mixed:=Wr
 f121:=func192.trans Wr
 f214:=func236.trans Wr
 t4:=underlying4
 a4:=isAgg4
 z4:=sizeOf4
 v4:=zeroValue4
 t9:=underlying9
 a9:=isAgg9
 z9:=sizeOf9
 v9:=zeroValue9 }
def Tryz.shItoa_ren:Go.Shelf.Ren:=⟨fun | 171=>193 | 243=>237 | 246=>254 | 283=>264 | 284=>265 | 285=>266 | 286=>267 | 129=>213 | 317=>272 | 318=>273 | 319=>274 | 320=>275 | 337=>277 | 338=>278 | n=>n,fun | 3=>3 | 9=>9 | 2=>2 | 4=>4 | 171=>289 | 0=>0 | 53=>250 | 37=>32 | 5=>5 | 173=>291 | 212=>297 | 51=>220 | 20=>20 | 213=>298 | 46=>145 | 232=>49 | 233=>302 | n=>n,fun | 17=>4 | 18=>5 | 19=>6 | n=>n⟩
theorem Tryz.shItoa:Go.Proofs.LaysM.n171 prog Tryz.shItoa_ren:={
 mixed:=Wr
 f129:=func213.trans Wr
 f171:=func193.trans Wr
 f243:=func237.trans Wr
 f246:=func254.trans Wr
 f283:=func264.trans Wr
 f284:=func265.trans Wr
 f285:=func266.trans Wr
 f286:=func267.trans Wr
 f317:=func272.trans Wr
 f318:=func273.trans Wr
 f319:=func274.trans Wr
 f320:=func275.trans Wr
 f337:=func277.trans Wr
 f338:=func278.trans Wr
 t0:=underlying0
 a0:=isAgg0
 z0:=sizeOf0
 v0:=zeroValue0
 t2:=underlying2
 a2:=isAgg2
 z2:=sizeOf2
 v2:=zeroValue2
 t3:=underlying3
 a3:=isAgg3
 z3:=sizeOf3
 v3:=zeroValue3
 t4:=underlying4
 a4:=isAgg4
 z4:=sizeOf4
 v4:=zeroValue4
 t5:=underlying5
 a5:=isAgg5
 z5:=sizeOf5
 v5:=zeroValue5
 t9:=underlying9
 a9:=isAgg9
 z9:=sizeOf9
 v9:=zeroValue9
 t20:=underlying20
 a20:=isAgg20
 z20:=sizeOf20
 v20:=zeroValue20
 t37:=underlying32
 a37:=isAgg32
 z37:=sizeOf32
 v37:=zeroValue32
 t46:=underlying145
 a46:=isAgg145
 z46:=sizeOf145
 v46:=zeroValue145
 t51:=underlying220
 a51:=isAgg220
 z51:=sizeOf220
 v51:=zeroValue220
 t53:=underlying250
 a53:=isAgg250
 z53:=sizeOf250
 v53:=zeroValue250
 t171:=underlying289
 a171:=isAgg289
 z171:=sizeOf289
 v171:=zeroValue289
 t173:=underlying291
 a173:=isAgg291
 z173:=sizeOf291
 v173:=zeroValue291
 t212:=underlying297
 a212:=isAgg297
 z212:=sizeOf297
 v212:=zeroValue297
 t213:=underlying298
 a213:=isAgg298
 z213:=sizeOf298
 t232:=underlying49
 a232:=isAgg49
 z232:=sizeOf49
 v232:=zeroValue49
 t233:=underlying302
 a233:=isAgg302
 z233:=sizeOf302
 v233:=zeroValue302
 g17:=Wr
 g18:=Wr
 g19:=Wr
 i0:=Wr
 i2:=Wr
 i3:=Wr
 i4:=Wr
 i5:=Wr
 i9:=Wr
 i20:=Wr
 i37:=Wr
 i46:=Wr
 i51:=Wr
 i53:=Wr
 i171:=Wr
 i173:=Wr
 i212:=Wr
 i232:=Wr
 i233:=Wr
 m17:=Wr
 m18:=Wr
 m19:=by kernel_rfl }
def Tryz.shToLower_ren:Go.Shelf.Ren:=⟨fun | 159=>276 | 165=>279 | 166=>191 | 167=>99 | 169=>100 | 230=>280 | 204=>281 | 240=>147 | 241=>282 | 197=>199 | 118=>283 | 168=>251 | 270=>284 | 262=>285 | 276=>190 | 277=>286 | 260=>239 | 242=>262 | 313=>287 | 278=>271 | 274=>288 | 275=>289 | n=>n,fun | 9=>9 | 4=>4 | 3=>3 | 5=>5 | 72=>141 | 0=>0 | 76=>229 | 75=>143 | 107=>301 | 70=>139 | 20=>20 | 37=>32 | 127=>186 | 21=>21 | 105=>237 | 164=>227 | 162=>307 | 203=>305 | 119=>281 | 46=>145 | 139=>284 | 138=>283 | 51=>220 | 160=>308 | 208=>314 | 206=>312 | 80=>111 | n=>n,fun | 13=>7 | 3=>2 | 4=>3 | n=>n⟩
theorem Tryz.shToLower:Go.Proofs.Lays.n159 prog Tryz.shToLower_ren:={
 mixed:=Wr
 f118:=func283.trans Wr
 f159:=func276.trans Wr
 f165:=func279.trans Wr
 f166:=func191.trans Wr
 f167:=func99.trans Wr
 f168:=func251.trans Wr
 f169:=func100.trans Wr
 f197:=func199.trans Wr
 f204:=func281.trans Wr
 f230:=func280.trans Wr
 f240:=func147.trans Wr
 f241:=func282.trans Wr
 f242:=func262.trans Wr
 f260:=func239.trans Wr
 f262:=func285.trans Wr
 f270:=func284.trans Wr
 f274:=func288.trans Wr
 f275:=func289.trans Wr
 f276:=func190.trans Wr
 f277:=func286.trans Wr
 f278:=func271.trans Wr
 f313:=func287.trans Wr
 t0:=underlying0
 a0:=isAgg0
 z0:=sizeOf0
 v0:=zeroValue0
 t3:=underlying3
 a3:=isAgg3
 z3:=sizeOf3
 v3:=zeroValue3
 t4:=underlying4
 a4:=isAgg4
 z4:=sizeOf4
 v4:=zeroValue4
 t5:=underlying5
 a5:=isAgg5
 z5:=sizeOf5
 v5:=zeroValue5
 t9:=underlying9
 a9:=isAgg9
 z9:=sizeOf9
 v9:=zeroValue9
 t20:=underlying20
 a20:=isAgg20
 z20:=sizeOf20
 v20:=zeroValue20
 t21:=underlying21
 a21:=isAgg21
 z21:=sizeOf21
 v21:=zeroValue21
 t37:=underlying32
 a37:=isAgg32
 z37:=sizeOf32
 v37:=zeroValue32
 t46:=underlying145
 a46:=isAgg145
 z46:=sizeOf145
 v46:=zeroValue145
 t51:=underlying220
 a51:=isAgg220
 z51:=sizeOf220
 v51:=zeroValue220
 t70:=underlying139
 a70:=isAgg139
 z70:=sizeOf139
 v70:=zeroValue139
 t72:=underlying141
 a72:=isAgg141
 z72:=sizeOf141
 v72:=zeroValue141
 t75:=underlying143
 a75:=isAgg143
 z75:=sizeOf143
 v75:=zeroValue143
 t76:=underlying229
 a76:=isAgg229
 z76:=sizeOf229
 v76:=zeroValue229
 t105:=underlying237
 a105:=isAgg237
 z105:=sizeOf237
 v105:=zeroValue237
 t107:=underlying301
 a107:=isAgg301
 z107:=sizeOf301
 v107:=zeroValue301
 t119:=underlying281
 a119:=isAgg281
 z119:=sizeOf281
 t127:=underlying186
 a127:=isAgg186
 z127:=sizeOf186
 v127:=zeroValue186
 t138:=underlying283
 a138:=isAgg283
 z138:=sizeOf283
 v138:=zeroValue283
 t139:=underlying284
 a139:=isAgg284
 z139:=sizeOf284
 v139:=zeroValue284
 t160:=underlying308
 a160:=isAgg308
 z160:=sizeOf308
 v160:=zeroValue308
 t162:=underlying307
 a162:=isAgg307
 z162:=sizeOf307
 v162:=zeroValue307
 t164:=underlying227
 a164:=isAgg227
 z164:=sizeOf227
 v164:=zeroValue227
 t203:=underlying305
 a203:=isAgg305
 z203:=sizeOf305
 v203:=zeroValue305
 t206:=underlying312
 a206:=isAgg312
 z206:=sizeOf312
 v206:=zeroValue312
 t208:=underlying314
 a208:=isAgg314
 z208:=sizeOf314
 v208:=zeroValue314
 g3:=Wr
 g4:=Wr
 g13:=by kernel_rfl }
def Tryz.shDecode_ren:Go.Shelf.Ren:=⟨fun | 197=>199 | 260=>239 | n=>n,fun | 9=>9 | 21=>21 | 3=>3 | 4=>4 | 5=>5 | 105=>237 | 119=>281 | 0=>0 | 46=>145 | 139=>284 | 138=>283 | n=>n,fun | 3=>2 | 4=>3 | n=>n⟩
theorem Tryz.shDecode:Go.Proofs.Lays.n197 prog Tryz.shDecode_ren:={
 mixed:=Wr
 f197:=func199.trans Wr
 f260:=func239.trans Wr
 t0:=underlying0
 a0:=isAgg0
 z0:=sizeOf0
 v0:=zeroValue0
 t3:=underlying3
 a3:=isAgg3
 z3:=sizeOf3
 v3:=zeroValue3
 t4:=underlying4
 a4:=isAgg4
 z4:=sizeOf4
 v4:=zeroValue4
 t5:=underlying5
 a5:=isAgg5
 z5:=sizeOf5
 v5:=zeroValue5
 t9:=underlying9
 a9:=isAgg9
 z9:=sizeOf9
 v9:=zeroValue9
 t21:=underlying21
 a21:=isAgg21
 z21:=sizeOf21
 v21:=zeroValue21
 t46:=underlying145
 a46:=isAgg145
 z46:=sizeOf145
 v46:=zeroValue145
 t105:=underlying237
 a105:=isAgg237
 z105:=sizeOf237
 v105:=zeroValue237
 t119:=underlying281
 a119:=isAgg281
 z119:=sizeOf281
 t138:=underlying283
 a138:=isAgg283
 z138:=sizeOf283
 v138:=zeroValue283
 t139:=underlying284
 a139:=isAgg284
 z139:=sizeOf284
 v139:=zeroValue284
 g3:=Wr
 g4:=by kernel_rfl }
def Tryz.shValid_ren:Go.Shelf.Ren:=⟨fun | 196=>258 | 259=>268 | n=>n,fun | 9=>9 | 4=>4 | 3=>3 | 5=>5 | 12=>12 | 119=>281 | 0=>0 | 46=>145 | 139=>284 | 138=>283 | 53=>250 | n=>n,fun | 3=>2 | 4=>3 | n=>n⟩
theorem Tryz.shValid:Go.Proofs.Lays.n196 prog Tryz.shValid_ren:={
 mixed:=Wr
 f196:=func258.trans Wr
 f259:=func268.trans Wr
 t0:=underlying0
 a0:=isAgg0
 z0:=sizeOf0
 v0:=zeroValue0
 t3:=underlying3
 a3:=isAgg3
 z3:=sizeOf3
 v3:=zeroValue3
 t4:=underlying4
 a4:=isAgg4
 z4:=sizeOf4
 v4:=zeroValue4
 t5:=underlying5
 a5:=isAgg5
 z5:=sizeOf5
 v5:=zeroValue5
 t9:=underlying9
 a9:=isAgg9
 z9:=sizeOf9
 v9:=zeroValue9
 t12:=underlying12
 a12:=isAgg12
 z12:=sizeOf12
 v12:=zeroValue12
 t46:=underlying145
 a46:=isAgg145
 z46:=sizeOf145
 v46:=zeroValue145
 t53:=underlying250
 a53:=isAgg250
 z53:=sizeOf250
 v53:=zeroValue250
 t119:=underlying281
 a119:=isAgg281
 z119:=sizeOf281
 t138:=underlying283
 a138:=isAgg283
 z138:=sizeOf283
 v138:=zeroValue283
 t139:=underlying284
 a139:=isAgg284
 z139:=sizeOf284
 v139:=zeroValue284
 g3:=Wr
 g4:=by kernel_rfl }
def Tryz.shAppendRune_ren:Go.Shelf.Ren:=⟨fun | 242=>262 | 278=>271 | n=>n,fun | 37=>32 | 21=>21 | 51=>220 | 4=>4 | 5=>5 | 46=>145 | n=>n,fun | n=>n⟩
theorem Tryz.shAppendRune:Go.Proofs.Lays.n242 prog Tryz.shAppendRune_ren:={
 mixed:=Wr
 f242:=func262.trans Wr
 f278:=func271.trans Wr
 t4:=underlying4
 a4:=isAgg4
 z4:=sizeOf4
 v4:=zeroValue4
 t5:=underlying5
 a5:=isAgg5
 z5:=sizeOf5
 v5:=zeroValue5
 t21:=underlying21
 a21:=isAgg21
 z21:=sizeOf21
 v21:=zeroValue21
 t37:=underlying32
 a37:=isAgg32
 z37:=sizeOf32
 v37:=zeroValue32
 t46:=underlying145
 a46:=isAgg145
 z46:=sizeOf145
 v46:=zeroValue145
 t51:=underlying220
 a51:=isAgg220
 z51:=sizeOf220
 v51:=zeroValue220 }
def Tryz.shTrim_ren:Go.Shelf.Ren:=⟨fun | 160=>102 | 232=>151 | 231=>150 | 227=>152 | 234=>154 | 233=>153 | 236=>156 | 235=>155 | 228=>198 | 271=>201 | 151=>200 | 197=>199 | 120=>241 | 152=>240 | 260=>239 | 137=>104 | 119=>255 | 224=>256 | 225=>257 | 217=>157 | 266=>202 | n=>n,fun | 9=>9 | 4=>4 | 3=>3 | 5=>5 | 117=>194 | 116=>193 | 0=>0 | 124=>197 | 21=>21 | 105=>237 | 46=>145 | 119=>281 | 139=>284 | 138=>283 | n=>n,fun | 3=>2 | 4=>3 | n=>n⟩
theorem Tryz.shTrim:Go.Proofs.Lays.n160 prog Tryz.shTrim_ren:={
 mixed:=Wr
 f119:=func255.trans Wr
 f120:=func241.trans Wr
 f137:=func104.trans Wr
 f151:=func200.trans Wr
 f152:=func240.trans Wr
 f160:=func102.trans Wr
 f197:=func199.trans Wr
 f217:=func157.trans Wr
 f224:=func256.trans Wr
 f225:=func257.trans Wr
 f227:=func152.trans Wr
 f228:=func198.trans Wr
 f231:=func150.trans Wr
 f232:=func151.trans Wr
 f233:=func153.trans Wr
 f234:=func154.trans Wr
 f235:=func155.trans Wr
 f236:=func156.trans Wr
 f260:=func239.trans Wr
 f266:=func202.trans Wr
 f271:=func201.trans Wr
 t0:=underlying0
 a0:=isAgg0
 z0:=sizeOf0
 v0:=zeroValue0
 t3:=underlying3
 a3:=isAgg3
 z3:=sizeOf3
 v3:=zeroValue3
 t4:=underlying4
 a4:=isAgg4
 z4:=sizeOf4
 v4:=zeroValue4
 t5:=underlying5
 a5:=isAgg5
 z5:=sizeOf5
 v5:=zeroValue5
 t9:=underlying9
 a9:=isAgg9
 z9:=sizeOf9
 v9:=zeroValue9
 t21:=underlying21
 a21:=isAgg21
 z21:=sizeOf21
 v21:=zeroValue21
 t46:=underlying145
 a46:=isAgg145
 z46:=sizeOf145
 v46:=zeroValue145
 t105:=underlying237
 a105:=isAgg237
 z105:=sizeOf237
 v105:=zeroValue237
 t116:=underlying193
 a116:=isAgg193
 z116:=sizeOf193
 t117:=underlying194
 a117:=isAgg194
 z117:=sizeOf194
 v117:=zeroValue194
 t119:=underlying281
 a119:=isAgg281
 z119:=sizeOf281
 t124:=underlying197
 a124:=isAgg197
 z124:=sizeOf197
 v124:=zeroValue197
 t138:=underlying283
 a138:=isAgg283
 z138:=sizeOf283
 v138:=zeroValue283
 t139:=underlying284
 a139:=isAgg284
 z139:=sizeOf284
 v139:=zeroValue284
 g3:=Wr
 g4:=by kernel_rfl }
def Tryz.shTrimLeft_ren:Go.Shelf.Ren:=⟨fun | 161=>172 | 231=>150 | 227=>152 | 233=>153 | 235=>155 | 228=>198 | 197=>199 | 151=>200 | 260=>239 | 152=>240 | 137=>104 | 119=>255 | 224=>256 | 225=>257 | 217=>157 | 266=>202 | n=>n,fun | 9=>9 | 4=>4 | 3=>3 | 5=>5 | 117=>194 | 116=>193 | 0=>0 | 124=>197 | 105=>237 | 21=>21 | 119=>281 | 46=>145 | 139=>284 | 138=>283 | n=>n,fun | 3=>2 | 4=>3 | n=>n⟩
theorem Tryz.shTrimLeft:Go.Proofs.Lays.n161 prog Tryz.shTrimLeft_ren:={
 mixed:=Wr
 f119:=func255.trans Wr
 f137:=func104.trans Wr
 f151:=func200.trans Wr
 f152:=func240.trans Wr
 f161:=func172.trans Wr
 f197:=func199.trans Wr
 f217:=func157.trans Wr
 f224:=func256.trans Wr
 f225:=func257.trans Wr
 f227:=func152.trans Wr
 f228:=func198.trans Wr
 f231:=func150.trans Wr
 f233:=func153.trans Wr
 f235:=func155.trans Wr
 f260:=func239.trans Wr
 f266:=func202.trans Wr
 t0:=underlying0
 a0:=isAgg0
 z0:=sizeOf0
 v0:=zeroValue0
 t3:=underlying3
 a3:=isAgg3
 z3:=sizeOf3
 v3:=zeroValue3
 t4:=underlying4
 a4:=isAgg4
 z4:=sizeOf4
 v4:=zeroValue4
 t5:=underlying5
 a5:=isAgg5
 z5:=sizeOf5
 v5:=zeroValue5
 t9:=underlying9
 a9:=isAgg9
 z9:=sizeOf9
 v9:=zeroValue9
 t21:=underlying21
 a21:=isAgg21
 z21:=sizeOf21
 v21:=zeroValue21
 t46:=underlying145
 a46:=isAgg145
 z46:=sizeOf145
 v46:=zeroValue145
 t105:=underlying237
 a105:=isAgg237
 z105:=sizeOf237
 v105:=zeroValue237
 t116:=underlying193
 a116:=isAgg193
 z116:=sizeOf193
 t117:=underlying194
 a117:=isAgg194
 z117:=sizeOf194
 v117:=zeroValue194
 t119:=underlying281
 a119:=isAgg281
 z119:=sizeOf281
 t124:=underlying197
 a124:=isAgg197
 z124:=sizeOf197
 v124:=zeroValue197
 t138:=underlying283
 a138:=isAgg283
 z138:=sizeOf283
 v138:=zeroValue283
 t139:=underlying284
 a139:=isAgg284
 z139:=sizeOf284
 v139:=zeroValue284
 g3:=Wr
 g4:=by kernel_rfl }
def Tryz.shIndexSig_ren:Go.Shelf.Ren:=⟨fun | 6=>116 | n=>n,fun | 22=>26 | 23=>38 | 25=>104 | 3=>3 | 0=>0 | 4=>4 | n=>n,fun | n=>n⟩
theorem Tryz.shIndexSig:Go.Proofs.SlLaysH0.n6 prog Tryz.shIndexSig_ren:={
 mixed:=Wr
 f6:=⟨Tryz.f116.name,Wo,func116.trans Wr⟩
 t0:=underlying0
 a0:=isAgg0
 z0:=sizeOf0
 v0:=zeroValue0
 t3:=underlying3
 a3:=isAgg3
 z3:=sizeOf3
 v3:=zeroValue3
 t4:=underlying4
 a4:=isAgg4
 z4:=sizeOf4
 v4:=zeroValue4
 t22:=underlying26
 a22:=isAgg26
 z22:=sizeOf26
 v22:=zeroValue26
 t25:=underlying104
 a25:=isAgg104
 z25:=sizeOf104
 v25:=zeroValue104 }
def Tryz.shIndexFunc_ren:Go.Shelf.Ren:=⟨fun | 6=>165 | n=>n,fun | 22=>23 | 23=>41 | 25=>204 | 3=>3 | 0=>0 | 4=>4 | n=>n,fun | n=>n⟩
theorem Tryz.shIndexFunc:Go.Proofs.SlLaysH0.n6 prog Tryz.shIndexFunc_ren:={
 mixed:=Wr
 f6:=⟨Tryz.f165.name,Wo,func165.trans Wr⟩
 t0:=underlying0
 a0:=isAgg0
 z0:=sizeOf0
 v0:=zeroValue0
 t3:=underlying3
 a3:=isAgg3
 z3:=sizeOf3
 v3:=zeroValue3
 t4:=underlying4
 a4:=isAgg4
 z4:=sizeOf4
 v4:=zeroValue4
 t22:=underlying23
 a22:=isAgg23
 z22:=sizeOf23
 v22:=zeroValue23
 t25:=underlying204
 a25:=isAgg204
 z25:=sizeOf204
 v25:=zeroValue204 }
end Go.Proofs
namespace Go.Proofs.YtjccecajigmfkaaGreatDoor
open Go.Proofs.Tryz
open Go.RowKit
open Go.Lib (decodeL)
variable {P:Program}{T:Nat}{W:World}{a:Option Addr}{args:Array Value}{b:Nat}{f:FuncId}{l:List UInt8}{p:Value}{r:Ending}{v:Value}{w w':World}
theorem zZ (l:List UInt8):(zw l).size=l.length:=by simp [zw,ByteArray.size]
theorem zm.toStr (h:zm w v l):(convert 32 9 v).run prog w = .ok (.string (zw l)) w:=by
 rcases h.2 with ⟨rfl,d⟩ | ⟨d,f,cap,rfl,hm⟩ | ⟨g,o,cap,rfl,hc,hm,j⟩;·have:l=[]:=Xh d;subst this;have a:=run_convert_bytes_nil (P:=prog) w 32 5 underlying32 underlying5 0 0 9 underlying9;have k:zw []=ByteArray.empty:=Wk;rw [k];exact a
 ·have:l=[]:=Xh d;subst this;have a:=run_convert_bytes_string (P:=prog) w 32 9 5 (some f) 0 cap underlying32 underlying5 underlying9;rw [a];rfl
 ·have a:=run_convert_bytes_arg (P:=prog) w 32 5 underlying32 underlying5 g o l.length cap (l.map fun b=>(b.toNat:Int)) Wz (fun i e=>by
   rw [j.at (by simpa using e)];simp [bv,Xq,e]) 9 underlying9
  have m:strOfNums (l.map fun b=>(b.toNat:Int))=zw l:=by
   unfold strOfNums zw;rw [uL];have p:((fun n:Int=>UInt8.ofNat n.toNat) ∘ fun b:UInt8=>(b.toNat:Int))=id:=funext fun b=>by simp
   rw [p,List.map_id]
  rw [← m];exact a
theorem str_test {a b:ByteArray}{r:Bool}(h:(a=b)↔r=true):(a.toList == b.toList)=r:=by
 cases r
 ·exact (k7 (fun e=>by have:=h.1 e;cases this)).1
 ·exact (jv (h.2 rfl)).1
theorem zaw (s:ByteArray)(U:s.size≤281474976710656)(w:World) : zG w 171 #[.string s] (.tuple #[.int .i64 (qG s.data.toList).1,.int .i64 (qG s.data.toList).2]):=by
 have L:=qI (nextGo_eq s.data.toList);have N:Hid (s.data.toList.length=s.size):=qI Wz;go_enter func171,ntmps171;go_wp2_with fail;go_loopw [4] (fun i wr=>∃ k:Nat,1≤k∧k≤5∧i = .int .i64 k∧jr (5-k) k s.data.toList=jr 4 1 s.data.toList∧zb [] w wr) (fun i _=>5-(intOf i).toNat);case atStart=>exact⟨1,Ws,Ws,rfl,rfl,Wd⟩
 case round=>
  obtain⟨k,E,Z,rfl,I,y⟩:=hrel;have B:=qI I;have C:=qI y;clear I y;by_cases D:k≤4∧k≤s.size
  ·obtain⟨J,q⟩:=D;have X:(k:Int)≤4:=Ws;have M:(k:Int)≤s.size:=Ws;have z:jr (5-k) k s.data.toList=if QU (jU s.data.toList k)=true∧yi (jU s.data.toList k).toNat=s.data.toList.take k then (jU s.data.toList k,k) else jr (5-(k+1)) (k+1) s.data.toList:=by
    rw [show 5-k=(5-(k+1))+1 by omega];conv=>lhs;unfold jr
    rw [XK ⟨J,by rw [N.o];exact q⟩]
   have v:=qI z;have A:=qI (code_any s k E J q U wr);have H:Hid ((s.extract 0 k).data.toList=s.data.toList.take k):=qI (by rw [ZI s 0 k q];simp);clear z;revert v A;generalize jU s.data.toList k=c;intro v A;cases f:QU c with
   | false=>
    have u:=qI f;clear f;go_wp2_with (go_at_call 215;refine A.o.mono ?_;rintro e w2 ⟨rfl,rfl⟩);refine zI wr Wr Wr Wd ?_;repeat go_big_quiet_step ((go_at_call 216;exact ext_same ((may_any c _).mono (by rw [u.o];exact fun _ _ h=>h))))
    refine wpQuiet_nil ?_;intro w2 t;go_wp2;case roundEnd=>refine⟨⟨k+1,Ws,Ws,by go_num,?_,C.o.then t⟩,by simp [intOf];omega⟩;rw [← B.o,v.o,XJ (by rw [u.o];simp)]
   | true=>
    obtain⟨m,rfl,hm⟩:=Zq.1 f;have u:=qI f;have P:=qI hm;clear f hm;go_wp2_with (go_at_call 215;refine A.o.mono ?_;rintro e w2 ⟨rfl,rfl⟩);refine zu (n:=11) (fun w':World=>zb [] wr w') 11 Wr Wr ?_;change zT _ _ _ _ _ _ _ _ _ wr.drew;have a:(fun w':World=>zb [] wr w') wr.drew:=Wd.drew;revert a;generalize wr.drew=W;intro a;refine zF ?_;intro O R j F;have b:jA R:=by subst F;exact fun _ _ _ _ _ h=>h
    refine qT 0 ?_ j rfl rfl Wr b (fun w d=>?_) a ?_;rotate_left;·exact zg
    try simp only [XI]
    refine qO 1 j rfl Wr (fun K p=>?_);go_simp;refine Calls.mono (may_any _ _) ?_;rintro e w2 ⟨rfl,rfl⟩;rw [u.o];refine p _ _ (.inr a) ?_;clear p K;try simp only [XI]
    refine qT 2 ?_ j rfl rfl Wr b (fun w d=>?_) a ?_;rotate_left;·exact zg
    try simp only [XI]
    refine qT 3 ?_ j rfl rfl Wr b (fun w d=>?_) a ?_;rotate_left;·exact zg
    try simp only [XI]
    refine qT 6 ?_ j rfl rfl Wr b (fun w d=>?_) a ?_;rotate_left;·exact zg
    try simp only [XI]
    refine qT 7 ?_ j rfl rfl Wr b (fun w d=>?_) a ?_;rotate_left;·exact zg
    try simp only [XI]
    refine qT 8 ?_ j rfl rfl Wr b (fun w d=>?_) a ?_;rotate_left;·exact zg
    try simp only [XI]
    refine qO 4 j rfl Wr (fun K p=>?_);go_simp;refine Calls.mono (YD m P.o _) ?_;rintro e w2 ⟨⟨ab,cb,rfl,G⟩,t⟩;have Y:(convert 32 9 (.slice ab (yi m).length cb)).run prog w2 = .ok (.string (zw (yi m))) w2:=zm.toStr G;have r:(fun w':World=>zb [] wr w') w2:=zb.trans' a t;refine p _ _ (.inr r) ?_;clear p K;try simp only [XI]
    clear a;have a:=r;clear r G;refine qO 5 j rfl Wr (fun K p=>?_);go_simp;refine p _ _ (.inr a) ?_;clear p K;try simp only [XI]
    clear Y;by_cases l:yi m=s.data.toList.take k
    ·have Q:((zw (yi m)).toList == (s.extract 0 k).toList)=true:=(jv (Q6 (by rw [zJ,H.o,l]))).1;have x:Hid (jr (5-k) k s.data.toList=((m:Int),k)):=qI (by rw [v.o,XK ⟨u.o,by rw [ux];exact l⟩]);clear l;refine qT 9 ?_ j rfl rfl Wr b (fun w d=>?_) a ?_;rotate_left;·exact zg
     try simp only [XI]
     refine qT 10 ?_ j rfl rfl Wr b (fun w d=>?_) a ?_;rotate_left;·exact zg
     try simp only [XI]
     refine zE j Wr ?_ _;subst F;try clear b j O
     go_wp2;go_ret2;rw [← L.o,← B.o,x.o];exact⟨rfl,C.o.then a⟩
    ·have Q:((zw (yi m)).toList == (s.extract 0 k).toList)=false:=(k7 (fun e=>l (by rw [← H.o,← e,zJ]))).1;have x:Hid (jr (5-k) k s.data.toList=jr (5-(k+1)) (k+1) s.data.toList):=qI (by rw [v.o,XJ (fun e=>l (by have:=e.2;rw [ux] at this;exact this))]);clear l;refine qT 9 ?_ j rfl rfl Wr b (fun w d=>?_) a ?_;rotate_left;·exact zg
     try simp only [XI]
     refine qT 10 ?_ j rfl rfl Wr b (fun w d=>?_) a ?_;rotate_left;·exact zg
     try simp only [XI]
     refine zE j Wr ?_ _;subst F;try clear b j O
     go_wp2;case roundEnd=>exact⟨⟨k+1,Ws,Ws,by go_num,by rw [← B.o,x.o],C.o.then a⟩,by simp [intOf];omega⟩
  ·have x:Hid (qG s.data.toList=(-1,0)):=qI (by
    rw [← L.o,← B.o];rcases (by omega:k=5∨(k≤4∧s.size<k)) with rfl | ⟨h1,h2⟩
    ·rfl
    ·rw [show 5-k=(4-k)+1 by omega];unfold jr;rw [XJ (by rw [N.o];omega)])
   rcases (by omega:(5:Int)≤k∨((k:Int)≤4∧(s.size:Int)<k)) with h1 | ⟨h1,h2⟩;all_goals
    go_wp2;go_ret2;rw [x.o];exact⟨rfl,C.o⟩
theorem next_valid (h:l≠[]):((qG l).2=0∧Lib.validD l=false)∨(1≤(qG l).2∧(qG l).2≤l.length∧Lib.validD l=Lib.validD (l.drop (qG l).2)):=by
 by_cases a:(decodeL l).1=65533∧(decodeL l).2=1
 ·refine .inl ⟨?_,?_⟩;·unfold qG;rw [XK (.inr a)]
  ·rw [Lib.validD_step l h,XK a]
 ·have D:=vo h a;have e:qG l=(((decodeL l).1:Int),(decodeL l).2):=by unfold qG;rw [XJ (by rintro (q | q);exact h q;exact a q)]
  refine .inr ⟨?_,?_,?_⟩;·rw [e];exact D.pos
  ·rw [e];exact D.le
  ·rw [e,Lib.validD_step l h,XJ a]
theorem ZU (s:ByteArray)(H:s.size≤281474976710656)(w:World) : zG w 122 #[.string s] (.bool (zv s)):=by
 go_enter func122,ntmps122;go_wp2_with fail;go_loopw [0] (fun x wr=>∃ t:ByteArray,x = .string t∧t.size≤s.size∧zv t=zv s∧zb [] w wr) (fun x _=>match x with | .string t=>t.size | _=>0);case atStart=>exact⟨s,rfl,XA,rfl,Wd⟩
 case round=>
  obtain⟨t,rfl,E,u,l⟩:=hrel;have m:=qI u;have n:=qI l;clear u l;by_cases G:0<t.size
  ·have z:(0:Int)<t.size:=by omega
   have d:t.data.toList.length=t.size:=Wz;have j:t.data.toList≠[]:=fun e=>by rw [e] at d;simp only [Xo] at d;omega
   have h:=qI (zaw t Ws wr);have hv:=next_valid j;have D:Hid (∀ i,(t.extract i t.size).data.toList=t.data.toList.drop i):=qI (qx t);unfold zv at m;rw [d] at hv;clear j d;revert h hv;generalize qG t.data.toList=r;obtain⟨c,k⟩:=r;intro h hv;simp only at h hv;rcases hv with ⟨rfl,hv⟩ | ⟨C,f,hv⟩
   ·have p:Hid (zv s=false):=qI (by unfold zv;rw [← m.o,hv]);clear hv;go_wp2_with (go_at_call 171;refine h.o.mono ?_;rintro e w2 ⟨rfl,f⟩);go_ret;rw [p.o];exact⟨rfl,n.o.then f⟩
   ·have y:(1:Int)≤k:=by omega
    have v:(k:Int)≤t.size:=Ws;have F:=(ve (a:=k) (b:=0) Ws).1;have A:=qI hv;clear hv;go_wp2_with (go_at_call 171;refine h.o.mono ?_;rintro e w2 ⟨rfl,f⟩);case roundEnd=>refine⟨⟨t.extract k t.size,rfl,by simp;omega,?_,n.o.then f⟩,by simp;omega⟩;unfold zv;rw [D.o,← A.o,m.o]
  ·have q:t.size=0:=by omega
   have p:Hid (zv s=true):=qI (by
    rw [← m.o];have:t.data.toList=[]:=Xh (by simpa using q);unfold zv;rw [this];rfl)
   have B:¬ (0:Int)<t.size:=Ws;clear q;go_wp2;go_ret;rw [p.o];exact⟨rfl,n.o⟩
structure zY (b:Nat)(w w':World):Prop where
 os:w'.os=w.os
 tape:w'.tape=w.tape
 output:w'.output=w.output
 size:w.heap.size≤w'.heap.size
 block:∀ k,k<w.heap.size→k≠b→kind w k≠5+2→w'.heap[k]? = w.heap[k]?
theorem zY.refl (b:Nat)(w:World):zY b w w:=⟨rfl,rfl,rfl,XA,fun _ _ _ _=>rfl⟩
theorem zY.trans {b:Nat}{x y z:World}(h:zY b x y)(k:zY b y z):zY b x z:=
 ⟨k.os.trans h.os,k.tape.trans h.tape,k.output.trans h.output,X7 h.size k.size,fun i d e f=>by
  have a:=h.block i d e f;have h2:kind y i=kind x i:=by simp [kind,a]
  exact (k.block i (uT d h.size) e (by rw [h2];exact f)).trans a⟩
theorem zY.of {X:List Nat}(h:zb X w w')(d:∀ k,k∈X→k=b∨kind w k=5+2):zY b w w':=
 ⟨h.os,h.tape,h.output,h.size,fun k f a i=>h.block k f (fun e=>by rcases d k e with g | g;exact a g;exact i g)⟩
theorem zY.of0 (h:zb [] w w'):zY b w w':=.of h Wz
theorem zY.heap {b:Nat}{w w':World}(h:zY b w w'){k:Nat}{o:Obj}(a:w.heap[k]? = some o)(d:k≠b)(e:kind w k≠5+2):w'.heap[k]? = some o:=
 (h.block k (lt_of_block a) d e).trans a
structure BW (T:Nat)(W:World)(b:Nat)(w:World)(l:List UInt8):Prop where
 blk:∃ p v,(p = .pointer none∨p = .pointer (some ⟨b,0,none⟩))∧w.heap[b]? = some (.cells #[p,v] T (0,0))∧w.ownsRow W.heap.size 5 1 v l.length (l.map bv)
 kept:zb [b] W w
 lt:b<W.heap.size
theorem BW.stay (h:BW T W b w l)(k:zb [] w w'):BW T W b w' l:=by
 obtain⟨p,v,hp,d,a⟩:=h.blk;exact⟨⟨p,v,hp,k.heap d Wz,zk a k Wz⟩,h.kept.then k,h.lt⟩
theorem BW.new (h:W.heap[b]? = some (.cells #[.pointer none,.slice none 0 0] T (0,0))):BW T W b W []:=
 ⟨⟨_,_,.inl rfl,h,World.ownsRow_nil _ _ _ _⟩,Wd,lt_of_block h⟩
def JP (T:Nat):Prop:=liesAt prog Tryz.prog.depth T (2/Tryz.prog.cellsOf T) 0 141 1=true
theorem xM:JP 141:=by unfold JP;kernel_rfl
theorem xC:JP 189:=by unfold JP;kernel_rfl
theorem shape_of {c:Array Value}{t:Nat}{f:Nat×Nat}(h:w.heap[b]? = some (.cells c t f)):w.shape? b=some (t,c.size):=by simp [World.shape?,h]
theorem ptr_same (w:World)(b:Nat):(binOp .neq 139 (.pointer (some ⟨b,0,none⟩)) (.pointer (some ⟨b,0,none⟩))).run prog w = .ok (.bool false) w:=by
 have a:(Tryz.prog.info? 141).map (·.size)=some 2:=Wr;obtain⟨j,d,_⟩:=ud.1 a;exact Lib.run_neq_ptr_same w _ underlying139 d
theorem to_unsafe (f:w.heap[b]? = some (.cells #[p,v] T (0,0))):(convert 139 227 (.pointer (some ⟨b,0,none⟩))).run prog w = .ok (.pointer (some ⟨b,0,none⟩)) w:=by
 have d:(Tryz.prog.info? 141).map (·.size)=some 2:=Wr;obtain⟨j,e,a⟩:=ud.1 d;exact Lib.run_to_unsafe w ⟨b,0,none⟩ underlying139 underlying227 e (by rw [a];decide) (shape_of f) Wz
theorem from_unsafe (a:JP T)(f:w.heap[b]? = some (.cells #[p,v] T (0,0))):(convert 227 139 (.pointer (some ⟨b,0,none⟩))).run prog w = .ok (.pointer (some ⟨b,0,none⟩)) w:=by
 have d:(Tryz.prog.info? 141).map (·.size)=some 2:=Wr;obtain⟨j,e,_⟩:=ud.1 d;exact Lib.run_from_unsafe w ⟨b,0,none⟩ underlying227 underlying139 e (shape_of f) a
theorem Zg (f:JP T)(hp:p = .pointer none∨p = .pointer (some ⟨b,0,none⟩))(a:w.heap[b]? = some (.cells #[p,v] T (0,0))) : Calls prog 147 #[.pointer (some ⟨b,0,none⟩)] w fun e w'=>e = .returned (.tuple #[])∧w'.heap[b]? = some (.cells #[.pointer (some ⟨b,0,none⟩),v] T (0,0))∧zb [b] w w':=by
 have d:=qI a;have c0:=za (o:=0) (v:=p) a rfl;have i:=zh (o:=0) a;have h:=to_unsafe a;have j:=from_unsafe f a;clear a;rcases hp with rfl | rfl
 ·go_enter func147,ntmps147;go_wp2_with fail;rw [run_callFunc_extern func190 Wr Wr Wr (e:=Extern.AbiNoEscape.same) Wr];rw [Lib.run_noEscape];simp only [Result.andThen];rw [Oper.upon_value];go_wp2_with fail;go_end0;exact⟨rfl,ze d.o rfl,Wd.setCell (.inl Wz) _⟩
 ·have k:=ptr_same w b;go_enter func147,ntmps147;go_wp2_with fail;go_end0;exact⟨rfl,d.o,Wd⟩
theorem za9:qq prog 32 5 1 1 (.int .u8 0):=⟨underlying32,Wr,rfl,Wo⟩
theorem BW.opened (h:BW T W b w l):∃ p a c,(p = .pointer none∨p = .pointer (some ⟨b,0,none⟩))∧w.heap[b]? = some (.cells #[p,.slice a l.length c] T (0,0))∧w.ownsRow W.heap.size 5 1 (.slice a l.length c) l.length (l.map bv):=by
 obtain⟨p,v,hp,e,d⟩:=h.blk;obtain⟨a,c,rfl,-,-⟩:=(Slc.of_row d).form;exact⟨p,a,c,hp,e,d⟩
theorem BW.wrote {w1 w2:World}{l':List UInt8}{n:Option Addr}{c m q:Nat}(h:BW T W b w l)(t:w.ownsRow W.heap.size 5 1 (.slice a l.length c) l.length (l.map bv))(u:w1.heap[b]? = some (.cells #[.pointer (some ⟨b,0,none⟩),.slice a l.length c] T (0,0)))(v:zb [b] w w1)(j:w2.ownsRow W.heap.size 5 1 (.slice n m q) m (l'.map bv))(B:l'.length=m)(f:zb (Value.slice a l.length c).ownBlock.toList w1 w2) : w2.cell? ⟨b,1,none⟩=some (.slice a l.length c)∧w2.frozen? ⟨b,1,none⟩=false∧BW T W b (w2.setCell ⟨b,1,none⟩ (.slice n m q)) l'∧zY b w (w2.setCell ⟨b,1,none⟩ (.slice n m q)):=by
 subst B;have s:=h.lt;have r:b ∉ (Value.slice a l.length c).ownBlock.toList:=fun y=>by have:=(t.lt _ (XD y)).1;omega
 have d:=f.heap u r;have z:zb (b::(Value.slice a l.length c).ownBlock.toList) w (w2.setCell ⟨b,1,none⟩ (.slice n l'.length q)):=
  ((v.mono (Y:=b::(Value.slice a l.length c).ownBlock.toList) Wz).trans' (f.mono (fun i e=>Xj _ e))).setCell (p:=⟨b,1,none⟩) (.inl (Xp ..)) _
 refine⟨za d rfl,zh d,⟨⟨_,_,.inr rfl,ze d rfl,?_⟩,?_,s⟩,zY.of z ?_⟩
 ·exact zk j ((zb.refl [b] w2).setCell (p:=⟨b,1,none⟩) (.inl Wz) _) (fun g A y=>by
   simp at y;have:=(j.lt g A).1;omega)
 ·exact h.kept.trans z (fun i e=>by
   rcases XY.1 e with rfl | e;·exact .inl Wz
   ·exact .inr (t.lt i (XD e)).1)
 ·intro k x;rcases XY.1 x with rfl | x;·exact .inl rfl
  ·exact .inr (yw t (XD x))
theorem qf (y:JP T)(h:BW T W b w l)(E:l.length≤100000000)(x:UInt8) : Calls prog 99 #[.pointer (some ⟨b,0,none⟩),.int .u8 x.toNat] w fun e w'=>e = .returned .nilIface∧BW T W b w' (l++[x])∧zY b w w':=by
 obtain⟨p,a,c,hp,q,r⟩:=h.opened;have H:=qI h;have m:=qI r;have B:=qI (Zg y hp q);have s:Hid (b<W.heap.size∧W.heap.size≤w.heap.size):=qI ⟨h.lt,h.kept.size⟩;clear h hp q r;go_enter func99,ntmps99;go_wp2_with (first
  | (go_at_call 147;refine B.o.mono ?_;rintro e w1 ⟨rfl,f,i⟩;have c1:=za (o:=1) (v:=.slice a l.length c) f rfl;have C:=qI f;have n:=qI i;clear f i)
  | (at_builtin;refine zz za9 (zk m.o (n.o.then ((zb.refl [] w1).alloc (.cells #[.int .u8 x.toNat] 5))) (by intro g A D;have u:=(m.o.lt g A).1;have h2:=s.o;simp at D;omega)) (bR w1 (bv x) 5 _ rfl) (by simp [bv,Value.oneCell']) (by simp only [maxLen];omega) Ws (by have u:=s.o;have h2:=n.o.size;simp;omega) rfl _ _ rfl rfl rfl ?_;intro v2 w2 d j _ k;obtain⟨a2,c2,rfl,-,-⟩:=(Slc.of_row d).form;obtain⟨g1,g2,g3,g4⟩:=BW.wrote (l':=l++[x]) H.o m.o (((zb.refl [] w1).alloc (.cells #[.int .u8 x.toNat] 5)).heap C.o Wz) (n.o.then ((zb.refl [] w1).alloc (.cells #[.int .u8 x.toNat] 5))) (by rw [Xc];exact d) Wz j;have z:=qI g3;have t:=qI g4;clear d j k g3 g4))
 go_ret;exact⟨rfl,z.o,t.o⟩
theorem vz (J:JP T)(h:BW T W b w l)(O:l.length≤100000000)(s:ByteArray)(N:s.size≤100000000) : Calls prog 191 #[.pointer (some ⟨b,0,none⟩),.string s] w fun e w'=>e = .returned (.tuple #[.int .i64 s.size,.nilIface])∧BW T W b w' (l++s.data.toList)∧zY b w w':=by
 obtain⟨p,a,c,hp,x,A⟩:=h.opened;obtain⟨L,z,j,m,n⟩:=info_parts za9.info;have H:=qI h;have r:=qI A;have C:=qI z;have u:=qI (And.intro j (And.intro m n));have D:=qI (Zg J hp x);have y:Hid (b<W.heap.size∧W.heap.size≤w.heap.size):=qI ⟨h.lt,h.kept.size⟩;have M:Hid (s.data.toList.length=s.size):=qI Wz;clear h hp x A z j m n;go_enter func191,ntmps191;go_wp2_with (first
  | (go_at_call 147;refine D.o.mono ?_;rintro e w1 ⟨rfl,f,i⟩;have c1:=za (o:=1) (v:=.slice a l.length c) f rfl;have E:=qI f;have t:=qI i;clear f i)
  | (at_builtin;refine Lib.wpList_append_own_string _ rfl _ _ 32 9 rfl W.heap.size 5 L underlying32 underlying9 C.o u.o.1 u.o.2.1 u.o.2.2 (.slice a l.length c) l.length (l.map bv) rfl (zk r.o t.o (by intro g K F;have I:=(r.o.lt g K).1;have h2:=y.o;simp at F;omega)) s rfl (by simp only [maxLen];omega) Ws (by have I:=y.o;have h2:=t.o.size;omega) ?_;intro v2 w2 d q _;obtain⟨a2,c2,rfl,-,-⟩:=(Slc.of_row d).form;obtain⟨g1,g2,g3,g4⟩:=BW.wrote (l':=l++s.data.toList) H.o r.o E.o t.o (by rw [Xc];exact d) (by rw [XM,M.o]) (Wd.grown q (fun k e=>.inl (by simp [e])));have B:=qI g3;have G:=qI g4;clear d q g3 g4))
 go_ret2;exact⟨rfl,B.o,G.o⟩
theorem KG (m:Nat)(hm:m<55296∨(57344≤m∧m≤1114111)):Lib.runeCells m=(yi m).map bv:=by
 rw [← zax m hm];unfold Lib.runeCells jo;by_cases a:m<128;·rw [Lib.encodeRuneZ_one Ws Ws,XK Ws];rfl
 by_cases h2:m<2048;·rw [Lib.encodeRuneZ_two Ws Ws,XJ Ws,XK Ws];rfl
 by_cases h3:m<65536;·rw [Lib.encodeRuneZ_three Ws,XJ Ws,XJ Ws,XK Ws];rfl
 ·rw [Lib.encodeRuneZ_four Ws Ws,XJ Ws,XJ Ws,XJ Ws];rfl
theorem wrune_any (F:JP T)(h:BW T W b w l)(K:l.length≤100000000)(m:Nat)(hm:m<55296∨(57344≤m∧m≤1114111)) : Calls prog 251 #[.pointer (some ⟨b,0,none⟩),.int .i32 m] w fun e w'=>(∃ k,e = .returned (.tuple #[k,.nilIface]))∧BW T W b w' (l++yi m)∧zY b w w':=by
 obtain⟨p,a,c,hp,s,x⟩:=h.opened;have H:=qI h;have n:=qI x;have A:=qI (Zg F hp s);have u:Hid (b<W.heap.size∧W.heap.size≤w.heap.size):=qI ⟨h.lt,h.kept.size⟩;have J:=qI (KG m hm);have z:Hid ((Lib.runeCells m).length=(yi m).length):=qI (by rw [KG m hm,Xb]);have I:(yi m).length≤4:=(kM m hm).2.2.1;have t:Hid ((m:Int)≤1114111):=qI Ws;clear h hp s x hm;go_enter func251,ntmps251;go_wp2_with (first
  | (go_at_call 147;refine A.o.mono ?_;rintro e w1 ⟨rfl,f,i⟩;have c1:=za (o:=1) (v:=.slice a l.length c) f rfl;have B:=qI f;have q:=qI i;clear f i)
  | (go_at_call 262;refine (Any.utf8_AppendRune_plain Tryz.shAppendRune Wr W.heap.size (.slice a l.length c) l.length (l.map bv) (m:Int) (XC t.o) (XC t.o) w1 (zk n.o q.o (by intro g G C;have E:=(n.o.lt g G).1;have h2:=u.o;simp at C;omega)) Ws (by have E:=u.o;have h2:=q.o.size;omega)).mono ?_;rintro e w2 ⟨v2,rfl,d,y,j⟩;obtain⟨a2,c2,rfl,-,-⟩:=(Slc.of_row d).form;obtain⟨g1,g2,g3,g4⟩:=BW.wrote (l':=l++yi m) H.o n.o B.o q.o (by rw [Xc,← J.o];exact d) (by rw [XM,z.o]) ((Wd.alloc y).grown j (fun k e=>.inl (by simp [e])));have r:=qI g3;have D:=qI g4;obtain⟨p5,v5,-,hb5,-⟩:=r.o.blk;clear d j g3 g4))
 go_ret2;exact⟨⟨_,rfl⟩,r.o,D.o⟩
theorem zaD {g:Nat}(n:Nat):zb [g] w (w.freeze ⟨g,0,none⟩ n):=by
 have h:=Lib.below_freeze (Below.refl 0 w) (p:=⟨g,0,none⟩) (XB) n;refine⟨h.os,h.tape,h.output,h.size,fun k b a=>?_⟩;unfold World.freeze;split;·rfl
 ·simp only [VF];rw [XJ (by simp at a;omega)]
theorem bX (h:BW T W b w l)(hl:l.length≤100000000)(L:l≠[]) : Calls prog 100 #[.pointer (some ⟨b,0,none⟩)] w fun e w'=>e = .returned (.string (zw l))∧zb [b] W w'∧zY b w w':=by
 obtain⟨p,a,c,hp,Q,N⟩:=h.opened;have Gb:Hid (b<W.heap.size∧W.heap.size≤w.heap.size):=qI ⟨h.lt,h.kept.size⟩;have Gl:=qI h.kept;have c1:=za (o:=1) (v:=.slice a l.length c) Q rfl;have A:l.length≠0:=by simpa using L
 obtain⟨g,cap,m,hv,Y,z,G,J,F,y⟩:∃ g cap m,(Value.slice a l.length c) = .slice (some ⟨g,0,none⟩) l.length cap∧W.heap.size≤g∧w.heap[g]? = some (.cells m 5 (0,0))∧l.length≤cap∧cap≤maxLen∧m.size=cap*1∧m.toList.take (l.length*1)=l.map bv:=by
  rcases N.2 with ⟨_,hz⟩ | ⟨g,cap,m,hv,r1,r2,r3,r4,r5,r6⟩;·exact absurd hz A
  ·exact⟨g,cap,m,hv,r1,r2,r3,r4,r5,r6⟩
 simp only [XU] at hv;obtain⟨rfl,-,rfl⟩:=hv;have q:∀ j x,l[j]? = some x→w.drew.cell? ((⟨g,0,none⟩:Addr).add j)=some (.int .u8 x.toNat):=by
  intro j x hx;have h2:=(Slc.of_row N).2;rcases h2 with ⟨h3,_⟩ | ⟨h3,_⟩ | ⟨g',o',Z,B,_,_,q⟩;·cases h3
  ·exact absurd h3 A
  ·simp only [XU,Xt,Addr.mk.injEq] at B;obtain⟨⟨rfl,rfl,-⟩,-,-⟩:=B;exact q.adds j (bv x) (by simp [hx])
 have t:∀ H:World,(Builtin.unsafeSliceData_ #[32] 186 #[.slice (some ⟨g,0,none⟩) l.length c]).run prog H = .ok (.pointer (some ⟨g,0,none⟩)) H:=fun H=>Lib.run_unsafeSliceData_row _ _ _ _ _ _ Ws;have s:(Builtin.unsafeString_ #[186,3] 9 #[.pointer (some ⟨g,0,none⟩),.int .i64 l.length]).run prog w.drew = .ok (.string (zw l)) (w.drew.freeze ⟨g,0,none⟩ l.length):=
  Lib.run_unsafeString_row w.drew 186 3 9 5 underlying186 Wr g m.size (by have M:w.drew.heap[g]? = some (.cells m 5 (0,0)):=z;simp [World.shape?,M]) l L Ws Ws q
 have E:Hid (zb [g] w (w.drew.freeze ⟨g,0,none⟩ l.length)):=qI ((zb.refl [g] w).drew.trans' (zaD l.length));have U:Hid (W.heap.size≤g∧kind w g=5+2):=qI ⟨Y,zQ z⟩;have Gm:=qI t;have I:=qI s;have P:b≠g:=XC Gb.o;clear h hp Q N z G J F y q A t s Y L;go_enter func100,ntmps100;go_wp2_with fail;refine zu (n:=12) (fun w':World=>w'.cell? ⟨b,1,none⟩=some (.slice (some ⟨g,0,none⟩) l.length c)) 11 Wr Wr ?_;change zT _ _ _ _ _ _ _ _ _ w.drew;have d:(fun w':World=>w'.cell? ⟨b,1,none⟩=some (.slice (some ⟨g,0,none⟩) l.length c)) w.drew:=c1;clear c1;revert d I E;generalize w.drew=W2;intro E I d;refine zF ?_;intro O R r X;have f:jA R:=by subst X;exact fun _ _ _ _ _ h=>h
 refine qT 0 ?_ r rfl rfl Wr f (fun w k=>?_) d ?_;rotate_left;·exact zg
 try simp only [XI]
 refine qT 1 ?_ r rfl rfl Wr f (fun w k=>?_) d ?_;rotate_left;·exact zg
 try simp only [XI]
 refine qT 2 ?_ r rfl rfl Wr f (fun w k=>?_) d ?_;rotate_left;·exact zg
 try simp only [XI]
 refine qT 3 ?_ r rfl rfl Wr f (fun w k=>?_) d ?_;rotate_left;·exact zg
 try simp only [XI]
 refine qT 5 ?_ r rfl rfl Wr f (fun w k=>?_) d ?_;rotate_left;·exact zg
 try simp only [XI]
 refine qT 6 ?_ r rfl rfl Wr f (fun w k=>?_) d ?_;rotate_left;·exact zg
 try simp only [XI]
 refine qT 7 ?_ r rfl rfl Wr f (fun w k=>?_) d ?_;rotate_left;·exact zg
 try simp only [XI]
 refine qT 8 ?_ r rfl rfl Wr f (fun w k=>?_) d ?_;rotate_left;·exact zg
 try simp only [XI]
 refine qT 9 ?_ r rfl rfl Wr f (fun w k=>?_) d ?_;rotate_left;·exact zg
 try simp only [XI]
 have t:=Gm.o;refine qT 4 ?_ r rfl rfl Wr f (fun w k=>?_) d ?_;rotate_left;·exact zg
 try simp only [XI]
 have s:=I.o;refine qO 10 r rfl Wr (fun K C=>?_);go_simp;have u:(fun w':World=>w'.cell? ⟨b,1,none⟩=some (.slice (some ⟨g,0,none⟩) l.length c)) (W2.freeze ⟨g,0,none⟩ l.length):=(zaD l.length).cell d (by simpa using P);refine C _ _ (.inr u) ?_;clear C K;try simp only [XI]
 clear d;have d:=u;clear u t s;refine qO 11 r rfl Wr (fun K C=>?_);go_simp;refine C _ _ (.inl rfl) ?_;clear C K;try simp only [XI]
 refine zE r Wr ?_ _;subst X;try clear f r O
 go_wp2;go_ret;refine⟨rfl,Gl.o.trans E.o (fun i D=>by simp at D;subst D;exact .inr U.o.1),zY.of E.o (fun i D=>by simp at D;subst D;exact .inr U.o.2)⟩
theorem bstring_new (r:w.heap[b]? = some (.cells #[p,.slice none 0 0] T (0,0))) : zG w 100 #[.pointer (some ⟨b,0,none⟩)] (.string (zw [])):=by
 have c1:=za (o:=1) (v:=.slice none 0 0) r rfl;have i:∀ q:World,(Builtin.unsafeSliceData_ #[32] 186 #[.slice none 0 0]).run prog q = .ok (.pointer none) q:=fun q=>Lib.run_unsafeSliceData_nil _ _ _ _ _;have j:(Builtin.unsafeString_ #[186,3] 9 #[.pointer none,.int .i64 0]).run prog w.drew = .ok (.string .empty) w.drew:=Lib.run_unsafeString_none _ _ _ _ _;have t:=qI i;have m:=qI j;have l:Hid (zb [] w w.drew):=qI (zb.refl [] w).drew;clear r i j;go_enter func100,ntmps100;go_wp2_with fail;refine zu (n:=12) (fun w':World=>w'.cell? ⟨b,1,none⟩=some (.slice none 0 0)) 11 Wr Wr ?_;change zT _ _ _ _ _ _ _ _ _ w.drew;have a:(fun w':World=>w'.cell? ⟨b,1,none⟩=some (.slice none 0 0)) w.drew:=c1;clear c1;revert a m l;generalize w.drew=W2;intro m l a;refine zF ?_;intro O R f s;have d:jA R:=by subst s;exact fun _ _ _ _ _ h=>h
 refine qT 0 ?_ f rfl rfl Wr d (fun w e=>?_) a ?_;rotate_left;·exact zg
 try simp only [XI]
 refine qT 1 ?_ f rfl rfl Wr d (fun w e=>?_) a ?_;rotate_left;·exact zg
 try simp only [XI]
 refine qT 2 ?_ f rfl rfl Wr d (fun w e=>?_) a ?_;rotate_left;·exact zg
 try simp only [XI]
 refine qT 3 ?_ f rfl rfl Wr d (fun w e=>?_) a ?_;rotate_left;·exact zg
 try simp only [XI]
 refine qT 5 ?_ f rfl rfl Wr d (fun w e=>?_) a ?_;rotate_left;·exact zg
 try simp only [XI]
 refine qT 6 ?_ f rfl rfl Wr d (fun w e=>?_) a ?_;rotate_left;·exact zg
 try simp only [XI]
 refine qT 7 ?_ f rfl rfl Wr d (fun w e=>?_) a ?_;rotate_left;·exact zg
 try simp only [XI]
 refine qT 8 ?_ f rfl rfl Wr d (fun w e=>?_) a ?_;rotate_left;·exact zg
 try simp only [XI]
 refine qT 9 ?_ f rfl rfl Wr d (fun w e=>?_) a ?_;rotate_left;·exact zg
 try simp only [XI]
 have i:=t.o;refine qT 4 ?_ f rfl rfl Wr d (fun w e=>?_) a ?_;rotate_left;·exact zg
 try simp only [XI]
 have j:=m.o;refine qO 10 f rfl Wr (fun K k=>?_);go_simp;refine k _ _ (.inr a) ?_;clear k K;try simp only [XI]
 clear i j;refine qO 11 f rfl Wr (fun K k=>?_);go_simp;refine k _ _ (.inl rfl) ?_;clear k K;try simp only [XI]
 refine zE f Wr ?_ _;subst s;try clear d f O
 go_wp2;go_ret;exact⟨rfl,l.o⟩
structure xS (w:World):Prop where
 utf:Lib.Utf8Tabs (Tryz.shDecode_ren.g 3) (Tryz.shDecode_ren.g 4) w
 case:Lib.CaseVar (Tryz.shToLower_ren.g 13) Lib.caseA w
 pow : Lib.TabIs Tryz.prog w "internal/strconv.uint64pow10" .u64 Lib.pow10Tab
theorem xS.k0 (h:xS w)(k:zb [] w w'):xS w':=by
 obtain⟨h1,h2,h3⟩:=h;refine⟨⟨fun c hc=>k.cell (h1.1 c hc) Wz,fun i hi=>⟨k.cell (h1.2 i hi).1 Wz,k.cell (h1.2 i hi).2 Wz⟩⟩,?_,?_⟩
 ·obtain⟨R,oR,cap,q,t⟩:=h2;exact⟨R,oR,cap,k.cell q Wz,fun i hi=>by
   obtain⟨a,b,c,d,e⟩:=t i hi;exact⟨k.cell a Wz,k.cell b Wz,k.cell c Wz,k.cell d Wz,k.cell e Wz⟩⟩
 ·have hs : (Tryz.prog.globalNamed "internal/strconv.uint64pow10").isSome = true := by kernel_rfl
  obtain⟨g,hg⟩:=Option.isSome_iff_exists.1 hs;exact Go.Joins.tab_stays hg h3 (k.below (XA) Wz) (XA)
theorem of_below (h:Calls P f args w fun e w'=>e=r∧Below w.heap.size w w'):Calls P f args w fun e w'=>e=r∧zb [] w w':=
 h.mono fun _ _ ⟨h1,h2⟩=>⟨h1,zb.of_below h2⟩
theorem za0 (h:Calls P f args w fun e w'=>e=r∧w'=w):Calls P f args w fun e w'=>e=r∧w=w':=
 h.mono fun _ _ ⟨h1,h2⟩=>⟨h1,h2.symm⟩
theorem libValid (a:xS w)(s:ByteArray)(b:s.size≤281474976710656):Calls prog 258 #[.string s] w fun e w'=>e = .returned (.bool (zv s))∧zb [] w w':=
 of_below (Any.utf8_ValidString Tryz.shValid s w Ws a.utf)
theorem libDecode (a:xS w)(s:ByteArray):Calls prog 199 #[.string s] w fun e w'=>e = .returned (.tuple #[.int .i32 (Lib.decodeGo s).1,.int .i64 (Lib.decodeGo s).2])∧zb [] w w':=
 of_below (Any.utf8_DecodeRuneInString Tryz.shDecode s w a.utf)
theorem vR (s:ByteArray)(c:Int)(w:World):Calls prog 104 #[.string s,.int .u8 c] w fun e w'=>e = .returned (.int .i64 (Lib.indexByte s.data.toList c.toNat.toUInt8))∧w=w':=
 za0 (Any.strings_IndexByte Tryz.shIndexByte s c w)
theorem kS (s p:ByteArray)(w:World):Calls prog 218 #[.string s,.string p] w fun e w'=>e = .returned (.bool (p.data.toList.isPrefixOf s.data.toList))∧w=w':=
 za0 (Any.strings_HasPrefix Tryz.shHasPrefix s p w)
theorem K7 (r:Int)(w:World):Calls prog 255 #[.int .i32 r] w fun e w'=>e = .returned (.bool (Lib.validRune r))∧w=w':=
 za0 (Any.utf8_ValidRune Tryz.shValidRune r w)
theorem libFormatBool (b:Bool)(w:World):Calls prog 192 #[.bool b] w fun e w'=>e = .returned (.string (zw (Lib.formatBool b)))∧w=w':=
 za0 (Any.strconv_FormatBool Tryz.shFormatBool b w)
theorem kept_grow (n:Nat)(os:Array Obj):zb [] w (Sort.grow (w.drewN n) os):=
 ⟨rfl,rfl,rfl,by simp [Sort.grow],fun k a _=>by
  show (w.heap++os)[k]? = w.heap[k]?;rw [Array.getElem?_append_left a]⟩
theorem libItoa (b:xS w)(n:Int)(d:-9223372036854775808≤n)(a:n≤9223372036854775807):Calls prog 193 #[.int .i64 n] w fun e w'=>e = .returned (.string (zw (Lib.itoa n)))∧zb [] w w':=
 (Any.strconv_Itoa Tryz.shItoa n d a w b.pow).mono fun e w' ⟨a,k,os,h2⟩=>⟨a,by rw [h2];exact kept_grow k os⟩
theorem lowerExtra:Builder.Extra prog Tryz.shToLower_ren:={
 sizeBuilder:=Wr
 liesBuilder:=Wr
 t5:=underlying5
 a5:=isAgg5
 z5:=sizeOf5
 v5:=zeroValue5
 infoByte:=Wr
 cellsByte:=Wr
 sizeByte:=Wr
 neB5:=by decide }
theorem libToLower (a:xS w)(s:ByteArray)(b:s.size≤1000000):Calls prog 276 #[.string s] w fun e w'=>e = .returned (.string (zw (Lib.toLowerD s.data.toList)))∧zb [] w w':=
 of_below (Any.strings_ToLower_any Tryz.shToLower lowerExtra s w Ws a.case a.utf)
theorem zaC (s cs:ByteArray)(w:World)(a:cs.size≤100)(h2:∀ (j:Nat) b,cs.data.toList[j]? = some b→b.toNat<128):Calls prog 172 #[.string s,.string cs] w fun e w'=>e = .returned (.string (zw (Lib.trimLeftS s.data.toList cs.data.toList)))∧zb [] w w':=
 of_below (Any.strings_TrimLeft_laid Tryz.shTrimLeft Wr s cs w Ws h2)
theorem libTrim (s cs:ByteArray)(w:World)(a:s.size≤281474976710656)(d:cs.size≤100)(h2:∀ (j:Nat) b,cs.data.toList[j]? = some b→b.toNat<128):Calls prog 102 #[.string s,.string cs] w fun e w'=>e = .returned (.string (zw (Lib.trimS s.data.toList cs.data.toList)))∧zb [] w w':=
 of_below (Any.strings_Trim_laid Tryz.shTrim Wr s cs w Ws Ws h2)
theorem zbq (b:xS w)(s:ByteArray)(d:s.size≤281474976710656):zG w 242 #[.string s] (.bool (zv s)):=by
 have C:=qI (libValid b s d);clear b;go_enter func242,ntmps242;go_wp2_with (go_at_call 258;refine C.o.mono ?_;rintro e w2 ⟨rfl,a⟩);go_ret;exact⟨rfl,a⟩
theorem decodeGo_eq (s:ByteArray):Lib.decodeGo s=if s.data.toList=[] then (65533,0) else decodeL s.data.toList:=by
 unfold Lib.decodeGo decodeL;have e:s.size=s.data.toList.length:=Wz;have a:(⟨s.data.toList.toArray⟩:ByteArray)=s:=by cases s;simp
 rw [a];by_cases h:s.data.toList=[];·rw [XK h,XK (by rw [e,h];rfl)]
 ·rw [XJ h,XJ (by rw [e];exact fun q=>h (Xh q))]
theorem utfNext (t:xS w)(s:ByteArray)(B:s.size≤281474976710656):zG w 261 #[.string s] (.tuple #[.int .i64 (qG s.data.toList).1,.int .i64 (qG s.data.toList).2]):=by
 have C:=qI (libDecode t s);have z:=qI (decodeGo_eq s);have m:Hid ((qG s.data.toList=((-1:Int),0)∧((Lib.decodeGo s).2=0∨((Lib.decodeGo s).1=65533∧(Lib.decodeGo s).2=1)))∨(qG s.data.toList=(((Lib.decodeGo s).1:Int),(Lib.decodeGo s).2)∧(Lib.decodeGo s).1≤1114111∧(Lib.decodeGo s).2≤4∧¬ ((Lib.decodeGo s).2=0)∧¬ ((Lib.decodeGo s).1=65533∧(Lib.decodeGo s).2=1))):=qI (by
  rw [z.o];unfold qG;by_cases h:s.data.toList=[];·rw [XK (.inl h),XK h];exact .inl ⟨rfl,.inl rfl⟩
  ·rw [XJ h];by_cases f:(decodeL s.data.toList).1=65533∧(decodeL s.data.toList).2=1;·rw [XK (.inr f)];exact .inl ⟨rfl,.inr f⟩
   ·rw [XJ (by rintro (q | q);exact h q;exact f q)];have D:=vo h f;have hp:=D.pos;have i:=(code_of D).2;have hv:=D.valid;exact .inr ⟨rfl,Ws,i,Ws,f⟩)
 clear t;revert C m;generalize qG s.data.toList=N;generalize Lib.decodeGo s=p;obtain⟨r,k⟩:=p;intro C m;simp only at C m;rcases m.o with ⟨rfl,rfl | ⟨rfl,rfl⟩⟩ | ⟨rfl,u,h2,h3,i⟩
 ·go_enter func261,ntmps261;go_wp2_with (go_at_call 199;refine C.o.mono ?_;rintro e w2 ⟨rfl,d⟩);go_ret2;exact⟨rfl,d⟩
 ·go_enter func261,ntmps261;go_wp2_with (go_at_call 199;refine C.o.mono ?_;rintro e w2 ⟨rfl,d⟩);go_ret2;exact⟨rfl,d⟩
 ·have y:((k:Int) == 0)=false:=(ve (a:=k) (b:=0) h3).1;have A:(r:Int)≤1114111:=Ws;have x:(0:Int)<k:=Ws;by_cases j:r=65533;·have l:=(Qm j).1;have v:((k:Int) == 1)=false:=(ve (a:=k) (b:=1) (fun e=>i ⟨j,e⟩)).1;have n:((r:Int) == 65533)=true:=l;clear u h2 h3 i j l;go_enter func261,ntmps261;go_wp2_with (go_at_call 199;refine C.o.mono ?_;rintro e w2 ⟨rfl,d⟩);go_ret2;exact⟨rfl,d⟩
  ·have l:=(ve j).1;have n:((r:Int) == 65533)=false:=l;clear u h2 h3 i j l;go_enter func261,ntmps261;go_wp2_with (go_at_call 199;refine C.o.mono ?_;rintro e w2 ⟨rfl,d⟩);go_ret2;exact⟨rfl,d⟩
theorem zm.at {c:Nat}(h:zm w (.slice a l.length c) l){k:Nat}(d:k<l.length):∃ g o,a=some ⟨g,o,none⟩∧w.cell? ⟨g,o+k,none⟩=some (.int .u8 l[k].toNat):=by
 rcases h.2 with ⟨_,e⟩ | ⟨e,_⟩ | ⟨g,o,cap,hv,_,_,b⟩;·omega
 ·omega
 ·simp only [XU] at hv;exact⟨g,o,hv.1,b.cells k (bv l[k]) (by simp [d])⟩
def bL (l:List UInt8):List UInt8:=l.flatMap (fun c=>[vO (c.toNat/16),vO (c.toNat%16)])
theorem hexL_snoc (l:List UInt8)(c:UInt8):bL (l++[c])=(bL l++[vO (c.toNat/16)])++[vO (c.toNat%16)]:=by simp [bL]
theorem Zu:∀ (l:List UInt8),(bL l).length=2*l.length
 | []=>rfl
 | c::l=>by have:=Zu l;simp only [bL,um,XM,XP,Xo] at *;omega
theorem hexc:∀ (k:Nat) (h:k<16),(⟨#[48,49,50,51,52,53,54,55,56,57,97,98,99,100,101,102]⟩:ByteArray)[k]'h=vO k:=by
 have h:∀ k:Fin 16,(⟨#[48,49,50,51,52,53,54,55,56,57,97,98,99,100,101,102]⟩:ByteArray)[k.val]'k.isLt=vO k.val:=Wo;exact fun k a=>h ⟨k,a⟩
theorem za4 {c:Nat}(h:zm w (.slice a l.length c) l)(I:l.length≤1000000)(z:l≠[]) : zG w 52 #[.slice a l.length c] (.string (zw (bL l))):=by
 have H:=qI h;obtain⟨m,q⟩:=XE (w.alloc (.cells #[.pointer none,.slice none 0 0] 141));have y:Hid (zb [] w m):=qI (kA1 q.o);have E:Hid (BW 141 m w.heap.size m []):=qI (BW.new (by rw [q.o];exact zd rfl));clear h;go_enter func52,ntmps52;go_wp2_with fail;rw [← q.o];go_loopw [8] (fun i wr=>∃ k:Nat,i = .int .i64 k∧k≤l.length∧BW 141 m w.heap.size wr (bL (l.take k))) (fun i _=>l.length-(intOf i).toNat);case atStart=>exact⟨0,rfl,XB,E.o⟩
 case round=>
  obtain⟨k,rfl,J,p⟩:=hrel;have B:=qI p;have F:Hid (zb [] w wr):=qI (y.o.trans p.kept (by intro i f;simp at f;subst f;exact .inr (XA)));clear p;by_cases j:k<l.length
  ·have u:(k:Int)<l.length:=by omega
   obtain⟨g,o,rfl,A⟩:=zm.at (H.o.k0 F.o) j;have C:(l[k].toNat:Int)≤255:=XC (l[k].toNat_lt);have r:Hid (bL (l.take (k+1))=(bL (l.take k)++[vO (l[k].toNat/16)])++[vO (l[k].toNat%16)]):=qI (by rw [XZ j,hexL_snoc]);revert A C r;generalize l[k]=x;intro A C r;have n:(bL (l.take k)).length≤50000000:=by rw [Zu,Xe];omega
   go_wp2_with fail;refine (qf xM B.o Ws _).mono ?_;rintro e w1 ⟨rfl,d,-⟩;rw [hexc _ Ws] at d;have t:=qI d;clear d;go_wp2_with fail;refine (qf xM t.o (by rw [XM];simp only [XP,Xo];omega) _).mono ?_;rintro e w2 ⟨rfl,b,-⟩;rw [hexc _ Ws,← r.o] at b;have G:=qI b;clear b;go_wp2;case roundEnd=>exact⟨⟨k+1,by go_num,Ws,G.o⟩,by simp [intOf];omega⟩
  ·obtain rfl:k=l.length:=by omega
   have t:Hid (BW 141 m w.heap.size wr (bL l)):=qI (by have:=B.o;rw [Xw] at this;exact this);have D:=qI z;clear z;have n:(bL l).length≤50000000:=by rw [Zu];omega
   go_wp2_with (go_at_call 100;refine (bX t.o Ws (by intro e;have v:=congrArg List.length e;rw [Zu] at v;simp only [Xo] at v;exact D.o (Xh Ws))).mono ?_;rintro e w2 ⟨rfl,s,-⟩);go_ret;exact⟨rfl,y.o.trans s (by intro i f;simp at f;subst f;exact .inr (XA))⟩
theorem wbyte_34 (d:JP T)(h:BW T W b w l)(a:l.length≤100000000) : Calls prog 99 #[.pointer (some ⟨b,0,none⟩),.int .u8 34] w fun e w'=>e = .returned .nilIface∧BW T W b w' (l++[34])∧zY b w w':=qf d h a 34
theorem wbyte_92 (d:JP T)(h:BW T W b w l)(a:l.length≤100000000) : Calls prog 99 #[.pointer (some ⟨b,0,none⟩),.int .u8 92] w fun e w'=>e = .returned .nilIface∧BW T W b w' (l++[92])∧zY b w w':=qf d h a 92
theorem quoteB_len (c:UInt8):(yn c).length≤6:=by
 unfold yn;split;·simp
 ·split <;> simp
theorem quote_take (s:List UInt8)(k:Nat):(((s.take k).flatMap yn)).length≤6*s.length:=by
 have h:∀ l:List UInt8,(l.flatMap yn).length≤6*l.length:=by
  intro l;induction l with
  | nil=>simp
  | cons c l ih=>have:=quoteB_len c;simp only [um,XM,XP];omega
 have a:=h (s.take k);rw [Xe] at a;omega
theorem utfQuote (J:xS w)(s:ByteArray)(hs:s.size≤1000000)(hv:zv s=true) : zG w 238 #[.string s] (.tuple #[.string (zw (yJ s.data.toList)),.int .i64 0]):=by
 have M:=qI (zbq J s Ws);rw [hv] at M;have F:Hid (s.data.toList.length=s.size):=qI Wz;clear J hv;go_enter func238,ntmps238;go_wp2_with (go_at_call 242;refine M.o.mh ?_;rintro e w1 rfl N);obtain⟨z,C⟩:=XE (w1.alloc (.cells #[.pointer none,.slice none 0 0] 141));have K:Hid (zb [] w1 z):=qI (kA1 C.o);have W:Hid (BW 141 z w1.heap.size z []):=qI (BW.new (by rw [C.o];exact zd rfl));rw [← C.o];refine (wbyte_34 xM W.o Wz).mono ?_;rintro e w2 ⟨rfl,u,-⟩;have X:=qI u;clear u;go_wp2_with fail;go_loopw [13] (fun i wr=>∃ k:Nat,i = .int .i64 k∧k≤s.size∧BW 141 z w1.heap.size wr (34::(s.data.toList.take k).flatMap yn)) (fun i _=>s.size-(intOf i).toNat);case atStart=>exact⟨0,rfl,XB,X.o⟩
 case round=>
  obtain⟨k,rfl,hk,B⟩:=hrel;have m:=qI B;have Gl:Hid (zb [] w1 wr):=qI (K.o.trans B.kept (by intro i t;simp at t;subst t;exact .inr (XA)));clear B;have P:(34::(s.data.toList.take k).flatMap yn:List UInt8).length≤6000001:=by have:=quote_take s.data.toList k;rw [F.o] at this;rw [XP];omega
  by_cases h:k<s.size
  ·have I:(k:Int)<s.size:=by omega
   have j:k<s.data.toList.length:=by rw [F.o];exact h
   have q:Hid (34::(s.data.toList.take (k+1)).flatMap yn=(34::(s.data.toList.take k).flatMap yn)++yn (s[k]'h)):=qI (by
    rw [XZ j,List.flatMap_append,uU];simp only [um,List.flatMap_nil,Xn];rfl)
   have O:((s[k]'h).toNat:Int)≤255:=XC ((s[k]'h).toNat_lt);clear j;revert O q;generalize 34::(s.data.toList.take k).flatMap yn=L at *;generalize aa:s[k]'h=x;intro q O;by_cases d:x.toNat<32
   ·have n:(x.toNat:Int)<32:=by omega
    have p:Hid (yn x=[92,117,48,48]++bL [x]):=qI (by unfold yn;rw [XK d];rfl);have CH:=qI (za4 (w:=wr.alloc (.cells #[.int .u8 x.toNat] 5)) (a:=some ⟨wr.heap.size,0,none⟩) (c:=1) (l:=[x]) (bR wr (bv x) 5 _ rfl) Wz Wz);clear d;go_wp2_with (go_at_call 52;refine CH.o.mono ?_;rintro e H ⟨rfl,r⟩;have Z:=qI (((zb.refl [] wr).alloc (.cells #[.int .u8 x.toNat] 5)).then r);clear r);have Q:Hid ((({ data:=#[92,117,48,48] }:ByteArray)++zw (bL [x])).data.toList=[92,117,48,48]++bL [x]):=qI (by
     rw [ByteArray.data_append,Array.toList_append,zJ])
    refine (vz xM (m.o.stay Z.o) Ws _ (by rw [← ByteArray.size_data,← ue,Q.o,XM,Zu];simp)).mono ?_;rintro e U ⟨rfl,f,-⟩;rw [Q.o,← p.o,← q.o] at f;have E:=qI f;clear f;go_wp2;case roundEnd=>exact⟨⟨k+1,by go_num,Ws,E.o⟩,by simp [intOf];omega⟩
   ·have n:¬ (x.toNat:Int)<32:=by omega
    by_cases hc:x=34∨x=92
    ·have p:Hid (yn x=[92]++[x]):=qI (by unfold yn;rw [XJ d,XK hc];rfl);have hg:((x.toNat:Int) == 34)=true∨(((x.toNat:Int) == 34)=false∧((x.toNat:Int) == 92)=true):=by
      rcases hc with rfl | rfl;·exact .inl rfl
      ·exact .inr ⟨rfl,rfl⟩
     clear hc d;rcases hg with R | ⟨R,Y⟩
     all_goals
      go_wp2_with fail;refine (wbyte_92 xM m.o Ws).mono ?_;rintro e H ⟨rfl,b,-⟩;have y:=qI b;clear b;go_wp2_with fail;refine (qf xM y.o (by rw [XM];simp only [XP,Xo];omega) x).mono ?_;rintro e U ⟨rfl,f,-⟩;have E:=qI f;clear f;go_wp2;case roundEnd=>exact⟨⟨k+1,by go_num,Ws,by rw [q.o,p.o,← Xv];exact E.o⟩,by simp [intOf];omega⟩
    ·have p:Hid (yn x=[x]):=qI (by unfold yn;rw [XJ d,XJ hc]);have G:∀ v:UInt8,x≠v→((x.toNat:Int) == (v.toNat:Int))=false:=fun v hv=>(ve (fun e=>hv (UInt8.toNat_inj.1 e))).1;have R:((x.toNat:Int) == 34)=false:=G 34 (fun e=>hc (.inl e));have Y:((x.toNat:Int) == 92)=false:=G 92 (fun e=>hc (.inr e));clear hc d G;go_wp2_with fail;refine (qf xM m.o Ws x).mono ?_;rintro e H ⟨rfl,b,-⟩;have y:=qI b;clear b;go_wp2;case roundEnd=>exact⟨⟨k+1,by go_num,Ws,by rw [q.o,p.o];exact y.o⟩,by simp [intOf];omega⟩
  ·obtain rfl:k=s.size:=by omega
   have A:Hid ((34::(s.data.toList.take s.size).flatMap yn)++[34]=yJ s.data.toList):=qI (by
    rw [Xl (by rw [F.o];exact XA)];rfl)
   revert P m A;generalize 34::(s.data.toList.take s.size).flatMap yn=L;intro m P A;go_wp2_with (first
    | (go_at_call 99;refine (wbyte_34 xM m.o Ws).mono ?_;rintro e H ⟨rfl,b,-⟩;rw [A.o] at b;have y:=qI b;clear b)
    | (go_at_call 100;refine (bX y.o (by rw [← A.o,XM];simp only [XP,Xo];omega) (by unfold yJ;exact List.cons_ne_nil _ _)).mono ?_;rintro e U ⟨rfl,D,-⟩))
   go_ret2;exact⟨rfl,(N.o.then K.o).trans D (by intro i t;simp at t;subst t;exact .inr N.o.size)⟩
end Go.Proofs.YtjccecajigmfkaaGreatDoor

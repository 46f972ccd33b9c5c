/- Parts of one proof, merged: XSh XShS XKM XKN XKO XKP XKE XBu XSl XSn XKH XVC XVM XVO XSp. -/
import Derived.Shelf.Strings.Prefix
import Derived.Shelf.Small.Strs
import Derived.Shelf.Small.Utf8
import Derived.Shelf.Small.Wraps
import Derived.Shelf.Strconv.Itoa3
import Derived.Shelf.Unicode.DecodeAny
import Derived.Shelf.Unicode.ValidAny
import Derived.Shelf.Strings.SlTrimAscii
import Derived.Shelf.SlicesQ.IndexFunc
import Derived.Shelf.SlGeneric
import Derived.Ground.NamesProg
import Derived.Ground.SlgfProg
import Derived.Test.YtibnfbglanpoiaaGreatDoorProg
import Derived.Shelf.SlSortCmp.WholeK
import Derived.Ground.SlsfProg
import Derived.Test.YtibnfbglanpoiaaGreatDoorQeE
import Derived.Laws.Cover1
import Derived.Shelf.SlSortCmp.NoneTotal
import Derived.Test.YtibnfbglanpoiaaGreatDoorQeH
import Derived.Lib.UnsafeStr
import Derived.Lib.AppendStr
import Derived.Lib.SmallJoins
import Derived.Lib.MapU
import Derived.Lib.SlTrimSet
import Derived.Lib.Bytealg
set_option linter.all false
set_option maxHeartbeats 12800000
set_option maxRecDepth 10000
namespace Go.Proofs
open Go.Shelf
def Tryz.shIndexByte_ren:Go.Shelf.Ren:=⟨fun | 137=>129 | 217=>169 | 266=>201 | n=>n,fun | 9=>9 | 5=>5 | 3=>3 | n=>n,fun | n=>n⟩
theorem Tryz.shIndexByte:Go.Proofs.Lays.n137 Tryz.prog Tryz.shIndexByte_ren:={
 mixed:=Wr
 f137:=func129.trans Wr
 f217:=func169.trans Wr
 f266:=func201.trans Wr
 t3:=underlying3
 a3:=isAgg3
 z3:=sizeOf3
 v3:=zeroValue3
 t5:=underlying5
 a5:=isAgg5
 z5:=sizeOf5
 v5:=zeroValue5
 t9:=underlying9
 a9:=isAgg9
 z9:=sizeOf9
 v9:=zeroValue9 }
def Tryz.shFormatBool_ren:Go.Shelf.Ren:=⟨fun | 121=>183 | 214=>204 | n=>n,fun | 4=>4 | 9=>9 | n=>n,fun | n=>n⟩
theorem Tryz.shFormatBool:Go.Proofs.Lays.n121 Tryz.prog Tryz.shFormatBool_ren:={
 mixed:=Wr
 f121:=func183.trans Wr
 f214:=func204.trans Wr
 t4:=underlying4
 a4:=isAgg4
 z4:=sizeOf4
 v4:=zeroValue4
 t9:=underlying9
 a9:=isAgg9
 z9:=sizeOf9
 v9:=zeroValue9 }
def Tryz.shItoa_ren:Go.Shelf.Ren:=⟨fun | 171=>184 | 243=>205 | 246=>215 | 283=>224 | 284=>225 | 285=>226 | 286=>227 | 129=>237 | 317=>239 | 318=>240 | 319=>241 | 320=>242 | 337=>248 | 338=>249 | n=>n,fun | 3=>3 | 9=>9 | 2=>2 | 4=>4 | 171=>259 | 0=>0 | 53=>226 | 37=>53 | 5=>5 | 173=>261 | 212=>272 | 51=>134 | 20=>20 | 213=>273 | 46=>129 | 232=>45 | 233=>282 | n=>n,fun | 17=>4 | 18=>5 | 19=>6 | n=>n⟩
theorem Tryz.shItoa:Go.Proofs.LaysM.n171 Tryz.prog Tryz.shItoa_ren:={
 mixed:=Wr
 f129:=func237.trans Wr
 f171:=func184.trans Wr
 f243:=func205.trans Wr
 f246:=func215.trans Wr
 f283:=func224.trans Wr
 f284:=func225.trans Wr
 f285:=func226.trans Wr
 f286:=func227.trans Wr
 f317:=func239.trans Wr
 f318:=func240.trans Wr
 f319:=func241.trans Wr
 f320:=func242.trans Wr
 f337:=func248.trans Wr
 f338:=func249.trans Wr
 t0:=underlying0
 a0:=isAgg0
 z0:=sizeOf0
 v0:=zeroValue0
 t2:=underlying2
 a2:=isAgg2
 z2:=sizeOf2
 v2:=zeroValue2
 t3:=underlying3
 a3:=isAgg3
 z3:=sizeOf3
 v3:=zeroValue3
 t4:=underlying4
 a4:=isAgg4
 z4:=sizeOf4
 v4:=zeroValue4
 t5:=underlying5
 a5:=isAgg5
 z5:=sizeOf5
 v5:=zeroValue5
 t9:=underlying9
 a9:=isAgg9
 z9:=sizeOf9
 v9:=zeroValue9
 t20:=underlying20
 a20:=isAgg20
 z20:=sizeOf20
 v20:=zeroValue20
 t37:=underlying53
 a37:=isAgg53
 z37:=sizeOf53
 v37:=zeroValue53
 t46:=underlying129
 a46:=isAgg129
 z46:=sizeOf129
 v46:=zeroValue129
 t51:=underlying134
 a51:=isAgg134
 z51:=sizeOf134
 v51:=zeroValue134
 t53:=underlying226
 a53:=isAgg226
 z53:=sizeOf226
 v53:=zeroValue226
 t171:=underlying259
 a171:=isAgg259
 z171:=sizeOf259
 v171:=zeroValue259
 t173:=underlying261
 a173:=isAgg261
 z173:=sizeOf261
 v173:=zeroValue261
 t212:=underlying272
 a212:=isAgg272
 z212:=sizeOf272
 v212:=zeroValue272
 t213:=underlying273
 a213:=isAgg273
 z213:=sizeOf273
 t232:=underlying45
 a232:=isAgg45
 z232:=sizeOf45
 v232:=zeroValue45
 t233:=underlying282
 a233:=isAgg282
 z233:=sizeOf282
 v233:=zeroValue282
 g17:=Wr
 g18:=Wr
 g19:=Wr
 i0:=Wr
 i2:=Wr
 i3:=Wr
 i4:=Wr
 i5:=Wr
 i9:=Wr
 i20:=Wr
 i37:=Wr
 i46:=Wr
 i51:=Wr
 i53:=Wr
 i171:=Wr
 i173:=Wr
 i212:=Wr
 i232:=Wr
 i233:=Wr
 m17:=Wr
 m18:=Wr
 m19:=by kernel_rfl }
def Tryz.shDecode_ren:Go.Shelf.Ren:=⟨fun | 197=>198 | 260=>211 | n=>n,fun | 9=>9 | 21=>21 | 3=>3 | 4=>4 | 5=>5 | 105=>240 | 119=>253 | 0=>0 | 46=>129 | 139=>256 | 138=>255 | n=>n,fun | 3=>2 | 4=>3 | n=>n⟩
theorem Tryz.shDecode:Go.Proofs.Lays.n197 Tryz.prog Tryz.shDecode_ren:={
 mixed:=Wr
 f197:=func198.trans Wr
 f260:=func211.trans Wr
 t0:=underlying0
 a0:=isAgg0
 z0:=sizeOf0
 v0:=zeroValue0
 t3:=underlying3
 a3:=isAgg3
 z3:=sizeOf3
 v3:=zeroValue3
 t4:=underlying4
 a4:=isAgg4
 z4:=sizeOf4
 v4:=zeroValue4
 t5:=underlying5
 a5:=isAgg5
 z5:=sizeOf5
 v5:=zeroValue5
 t9:=underlying9
 a9:=isAgg9
 z9:=sizeOf9
 v9:=zeroValue9
 t21:=underlying21
 a21:=isAgg21
 z21:=sizeOf21
 v21:=zeroValue21
 t46:=underlying129
 a46:=isAgg129
 z46:=sizeOf129
 v46:=zeroValue129
 t105:=underlying240
 a105:=isAgg240
 z105:=sizeOf240
 v105:=zeroValue240
 t119:=underlying253
 a119:=isAgg253
 z119:=sizeOf253
 t138:=underlying255
 a138:=isAgg255
 z138:=sizeOf255
 v138:=zeroValue255
 t139:=underlying256
 a139:=isAgg256
 z139:=sizeOf256
 v139:=zeroValue256
 g3:=Wr
 g4:=by kernel_rfl }
def Tryz.shValid_ren:Go.Shelf.Ren:=⟨fun | 196=>214 | 259=>223 | n=>n,fun | 9=>9 | 4=>4 | 3=>3 | 5=>5 | 12=>12 | 119=>253 | 0=>0 | 46=>129 | 139=>256 | 138=>255 | 53=>226 | n=>n,fun | 3=>2 | 4=>3 | n=>n⟩
theorem Tryz.shValid:Go.Proofs.Lays.n196 Tryz.prog Tryz.shValid_ren:={
 mixed:=Wr
 f196:=func214.trans Wr
 f259:=func223.trans Wr
 t0:=underlying0
 a0:=isAgg0
 z0:=sizeOf0
 v0:=zeroValue0
 t3:=underlying3
 a3:=isAgg3
 z3:=sizeOf3
 v3:=zeroValue3
 t4:=underlying4
 a4:=isAgg4
 z4:=sizeOf4
 v4:=zeroValue4
 t5:=underlying5
 a5:=isAgg5
 z5:=sizeOf5
 v5:=zeroValue5
 t9:=underlying9
 a9:=isAgg9
 z9:=sizeOf9
 v9:=zeroValue9
 t12:=underlying12
 a12:=isAgg12
 z12:=sizeOf12
 v12:=zeroValue12
 t46:=underlying129
 a46:=isAgg129
 z46:=sizeOf129
 v46:=zeroValue129
 t53:=underlying226
 a53:=isAgg226
 z53:=sizeOf226
 v53:=zeroValue226
 t119:=underlying253
 a119:=isAgg253
 z119:=sizeOf253
 t138:=underlying255
 a138:=isAgg255
 z138:=sizeOf255
 v138:=zeroValue255
 t139:=underlying256
 a139:=isAgg256
 z139:=sizeOf256
 v139:=zeroValue256
 g3:=Wr
 g4:=by kernel_rfl }
def Tryz.shTrim_ren:Go.Shelf.Ren:=⟨fun | 160=>127 | 232=>163 | 231=>162 | 227=>164 | 234=>166 | 233=>165 | 236=>168 | 235=>167 | 228=>197 | 271=>200 | 151=>199 | 197=>198 | 120=>213 | 152=>212 | 260=>211 | 137=>129 | 119=>220 | 224=>221 | 225=>222 | 217=>169 | 266=>201 | n=>n,fun | 9=>9 | 4=>4 | 3=>3 | 5=>5 | 117=>213 | 116=>212 | 0=>0 | 124=>216 | 21=>21 | 105=>240 | 46=>129 | 119=>253 | 139=>256 | 138=>255 | n=>n,fun | 3=>2 | 4=>3 | n=>n⟩
theorem Tryz.shTrim:Go.Proofs.Lays.n160 Tryz.prog Tryz.shTrim_ren:={
 mixed:=Wr
 f119:=func220.trans Wr
 f120:=func213.trans Wr
 f137:=func129.trans Wr
 f151:=func199.trans Wr
 f152:=func212.trans Wr
 f160:=func127.trans Wr
 f197:=func198.trans Wr
 f217:=func169.trans Wr
 f224:=func221.trans Wr
 f225:=func222.trans Wr
 f227:=func164.trans Wr
 f228:=func197.trans Wr
 f231:=func162.trans Wr
 f232:=func163.trans Wr
 f233:=func165.trans Wr
 f234:=func166.trans Wr
 f235:=func167.trans Wr
 f236:=func168.trans Wr
 f260:=func211.trans Wr
 f266:=func201.trans Wr
 f271:=func200.trans Wr
 t0:=underlying0
 a0:=isAgg0
 z0:=sizeOf0
 v0:=zeroValue0
 t3:=underlying3
 a3:=isAgg3
 z3:=sizeOf3
 v3:=zeroValue3
 t4:=underlying4
 a4:=isAgg4
 z4:=sizeOf4
 v4:=zeroValue4
 t5:=underlying5
 a5:=isAgg5
 z5:=sizeOf5
 v5:=zeroValue5
 t9:=underlying9
 a9:=isAgg9
 z9:=sizeOf9
 v9:=zeroValue9
 t21:=underlying21
 a21:=isAgg21
 z21:=sizeOf21
 v21:=zeroValue21
 t46:=underlying129
 a46:=isAgg129
 z46:=sizeOf129
 v46:=zeroValue129
 t105:=underlying240
 a105:=isAgg240
 z105:=sizeOf240
 v105:=zeroValue240
 t116:=underlying212
 a116:=isAgg212
 z116:=sizeOf212
 t117:=underlying213
 a117:=isAgg213
 z117:=sizeOf213
 v117:=zeroValue213
 t119:=underlying253
 a119:=isAgg253
 z119:=sizeOf253
 t124:=underlying216
 a124:=isAgg216
 z124:=sizeOf216
 v124:=zeroValue216
 t138:=underlying255
 a138:=isAgg255
 z138:=sizeOf255
 v138:=zeroValue255
 t139:=underlying256
 a139:=isAgg256
 z139:=sizeOf256
 v139:=zeroValue256
 g3:=Wr
 g4:=by kernel_rfl }
def Tryz.shIndexSig_ren:Go.Shelf.Ren:=⟨fun | 6=>98 | n=>n,fun | 22=>26 | 23=>40 | 25=>97 | 3=>3 | 0=>0 | 4=>4 | n=>n,fun | n=>n⟩
theorem Tryz.shIndexSig:Go.Proofs.SlLaysH0.n6 Tryz.prog Tryz.shIndexSig_ren:={
 mixed:=Wr
 f6:=⟨Tryz.f98.name,Wo,func98.trans Wr⟩
 t0:=underlying0
 a0:=isAgg0
 z0:=sizeOf0
 v0:=zeroValue0
 t3:=underlying3
 a3:=isAgg3
 z3:=sizeOf3
 v3:=zeroValue3
 t4:=underlying4
 a4:=isAgg4
 z4:=sizeOf4
 v4:=zeroValue4
 t22:=underlying26
 a22:=isAgg26
 z22:=sizeOf26
 v22:=zeroValue26
 t25:=underlying97
 a25:=isAgg97
 z25:=sizeOf97
 v25:=zeroValue97 }
def Tryz.shIndexRow_ren:Go.Shelf.Ren:=⟨fun | 6=>99 | n=>n,fun | 22=>32 | 23=>49 | 25=>151 | 3=>3 | 0=>0 | 4=>4 | n=>n,fun | n=>n⟩
theorem Tryz.shIndexRow:Go.Proofs.SlLaysH0.n6 Tryz.prog Tryz.shIndexRow_ren:={
 mixed:=Wr
 f6:=⟨Tryz.f99.name,Wo,func99.trans Wr⟩
 t0:=underlying0
 a0:=isAgg0
 z0:=sizeOf0
 v0:=zeroValue0
 t3:=underlying3
 a3:=isAgg3
 z3:=sizeOf3
 v3:=zeroValue3
 t4:=underlying4
 a4:=isAgg4
 z4:=sizeOf4
 v4:=zeroValue4
 t22:=underlying32
 a22:=isAgg32
 z22:=sizeOf32
 v22:=zeroValue32
 t25:=underlying151
 a25:=isAgg151
 z25:=sizeOf151
 v25:=zeroValue151 }
end Go.Proofs
namespace Go.Proofs
def Tryz.shSort_ren:Go.Shelf.Ren:=⟨fun | 6=>207 | 15=>217 | 14=>216 | 28=>236 | 29=>237 | 20=>228 | 21=>229 | 22=>230 | 23=>231 | 24=>232 | 25=>233 | 26=>234 | 27=>235 | 46=>243 | 47=>244 | 48=>245 | 49=>246 | 50=>247 | 57=>250 | n=>n,fun | 22=>23 | 24=>132 | 25=>247 | 3=>3 | 39=>129 | 0=>0 | 53=>134 | 55=>226 | 4=>4 | 46=>265 | 45=>264 | 50=>269 | 5=>5 | 9=>9 | 66=>274 | 70=>278 | 76=>280 | 77=>187 | n=>n,fun | n=>n⟩
theorem Tryz.shSort:Go.Proofs.SlLaysF0.n6 Tryz.prog Tryz.shSort_ren:={
 mixed:=Wr
 f6:=⟨Tryz.f207.name,Wo,func207.trans Wr⟩
 f14:=⟨Tryz.f216.name,Wo,func216.trans Wr⟩
 f15:=func217.trans Wr
 f20:=⟨Tryz.f228.name,Wo,func228.trans Wr⟩
 f21:=⟨Tryz.f229.name,Wo,func229.trans Wr⟩
 f22:=⟨Tryz.f230.name,Wo,func230.trans Wr⟩
 f23:=⟨Tryz.f231.name,Wo,func231.trans Wr⟩
 f24:=⟨Tryz.f232.name,Wo,func232.trans Wr⟩
 f25:=⟨Tryz.f233.name,Wo,func233.trans Wr⟩
 f26:=⟨Tryz.f234.name,Wo,func234.trans Wr⟩
 f27:=⟨Tryz.f235.name,Wo,func235.trans Wr⟩
 f28:=func236.trans Wr
 f29:=func237.trans Wr
 f46:=⟨Tryz.f243.name,Wo,func243.trans Wr⟩
 f47:=func244.trans Wr
 f48:=func245.trans Wr
 f49:=⟨Tryz.f246.name,Wo,func246.trans Wr⟩
 f50:=⟨Tryz.f247.name,Wo,func247.trans Wr⟩
 f57:=⟨Tryz.f250.name,Wo,func250.trans Wr⟩
 t0:=underlying0
 a0:=isAgg0
 z0:=sizeOf0
 v0:=zeroValue0
 t3:=underlying3
 a3:=isAgg3
 z3:=sizeOf3
 v3:=zeroValue3
 t4:=underlying4
 a4:=isAgg4
 z4:=sizeOf4
 v4:=zeroValue4
 t5:=underlying5
 a5:=isAgg5
 z5:=sizeOf5
 v5:=zeroValue5
 t9:=underlying9
 a9:=isAgg9
 z9:=sizeOf9
 v9:=zeroValue9
 t22:=underlying23
 a22:=isAgg23
 z22:=sizeOf23
 v22:=zeroValue23
 t25:=underlying247
 a25:=isAgg247
 z25:=sizeOf247
 v25:=zeroValue247
 t39:=underlying129
 a39:=isAgg129
 z39:=sizeOf129
 v39:=zeroValue129
 t45:=underlying264
 a45:=isAgg264
 z45:=sizeOf264
 v45:=zeroValue264
 t46:=underlying265
 a46:=isAgg265
 z46:=sizeOf265
 v46:=zeroValue265
 t50:=underlying269
 a50:=isAgg269
 z50:=sizeOf269
 v50:=zeroValue269
 t53:=underlying134
 a53:=isAgg134
 z53:=sizeOf134
 v53:=zeroValue134
 t55:=underlying226
 a55:=isAgg226
 z55:=sizeOf226
 v55:=zeroValue226
 t66:=underlying274
 a66:=isAgg274
 z66:=sizeOf274
 v66:=zeroValue274
 t70:=underlying278
 a70:=isAgg278
 z70:=sizeOf278
 v70:=zeroValue278
 t76:=underlying280
 a76:=isAgg280
 z76:=sizeOf280
 v76:=zeroValue280
 t77:=underlying187
 a77:=isAgg187
 z77:=sizeOf187
 v77:=zeroValue187 }
end Go.Proofs
namespace Go.Proofs.YtibnfbglanpoiaaGreatDoor
open Go.Proofs.Tryz
open Go.RowKit
open Go.Sort (grow flatK size_flatK get_flatK putRowK HoldsK)
theorem Y8:∀ (l m:List UInt8),Op.bytesLess l m=decide (l<m)
 | [],[]=>by simp [Op.bytesLess]
 | _::_,[]=>by simp [Op.bytesLess]
 | [],_::_=>by simp [Op.bytesLess]
 | a::x,b::y=>by
  have ih:=Y8 x y
  unfold Op.bytesLess
  rw [ih,Bool.eq_iff_iff]
  simp only [Bool.or_eq_true,Bool.and_eq_true,decide_eq_true_eq,beq_iff_eq,List.cons_lt_cons_iff]
theorem zH.perm {α β:Type}{R:α→β→Prop}:∀ {xs xs':List α}{ys:List β},zH R xs ys→xs'.Perm xs→∃ ys',ys'.Perm ys∧zH R xs' ys':=by
 intro xs xs' ys h hp
 induction hp generalizing ys with
 | nil=>exact⟨ys,List.Perm.refl _,h⟩
 | cons x _ ih=>
  match ys,h with
  | [],h=>exact absurd h.1 Wz
  | y::ys,h=>
   obtain⟨zs,h1,h2⟩:=ih (ys:=ys) ⟨by simpa using h.1,fun j a b ha hb=>h.2 (j+1) a b (by simpa using ha) (by simpa using hb)⟩
   exact⟨y::zs,h1.cons y,h2.cons (h.2 0 _ _ rfl rfl)⟩
 | swap x z l=>
  match ys,h with
  | [],h=>exact absurd h.1 Wz
  | [_],h=>exact absurd h.1 Wz
  | y1::y2::ys,h=>
   refine⟨y2::y1::ys,List.Perm.swap ..,?_⟩
   have h0:zH R l ys:=⟨by simpa using h.1,fun j a b ha hb=>h.2 (j+2) a b (by simpa using ha) (by simpa using hb)⟩
   exact zH.cons (h.2 1 _ _ rfl rfl) (zH.cons (h.2 0 _ _ rfl rfl) h0)
 | trans _ _ ih1 ih2=>
  obtain⟨z1,p1,h1⟩:=ih2 h
  obtain⟨z2,p2,h2⟩:=ih1 h1
  exact⟨z2,p2.trans p1,h2⟩
theorem flat_set {size:Nat}(ls:List (List Value)) (i:Nat) (c:List Value) (h:∀ x,x∈ls→x.length=size) (hc:c.length=size) (j:Nat) :
  (ls.set i c).flatten[j]? = if i<ls.length∧i*size≤j∧j<i*size+size then c[j-i*size]? else ls.flatten[j]?:=by
 induction ls generalizing i j with
 | nil=>simp
 | cons x ls ih=>
  have hx:=h x (List.mem_cons_self ..)
  cases i with
  | zero=>
   simp only [List.set_cons_zero,List.flatten_cons,Nat.zero_mul,Nat.zero_le,true_and,Nat.zero_add,Nat.sub_zero,List.length_cons,Nat.zero_lt_succ]
   by_cases hj:j<size
   ·rw [if_pos hj,List.getElem?_append_left Ws]
   ·rw [if_neg hj,List.getElem?_append_right Ws,List.getElem?_append_right Ws,hc,hx]
  | succ i=>
   simp only [List.set_cons_succ,List.flatten_cons,List.length_cons]
   have e:(i+1)*size=i*size+size:=by rw [Nat.add_mul,Nat.one_mul]
   by_cases hj:j<size
   ·rw [List.getElem?_append_left Ws,List.getElem?_append_left Ws,if_neg Ws]
   ·rw [List.getElem?_append_right Ws,List.getElem?_append_right Ws,ih i (fun y hy=>h y (List.mem_cons_of_mem _ hy)),hx,e]
    by_cases q:i<ls.length∧i*size≤j-size∧j-size<i*size+size
    ·rw [if_pos q,if_pos Ws,show j-(i*size+size)=j-size-i*size by omega]
    ·rw [if_neg q,if_neg Ws]
theorem row_stored {w:World}{base e size n:Nat}{v:Value}{ls:List (List Value)}{i g:Nat}{c:List Value}(h:w.ownsRow base e size v n ls.flatten) (hls:∀ x,x∈ls→x.length=size) (hv:v.ownBlock=some g) (hn:ls.length=n) (hi:i<n) (hc:c.length=size) :
  (w.setCells g (i*size) c).ownsRow base e size v n (ls.set i c).flatten∧w.there g (i*size) size∧zb [g] w (w.setCells g (i*size) c):=by
 obtain⟨h1,h2⟩:=h
 rcases h2 with ⟨rfl,_⟩ | ⟨g',cap,cur,rfl,hb,hh,hcap,hm,hs,ht⟩
 ·simp [Value.ownBlock] at hv
 ·simp [Value.ownBlock] at hv
  subst hv
  have hfl:=bF ls hls
  have hsz:(i+1)*size≤cap*size:=Nat.mul_le_mul_right size Ws
  rw [Nat.add_mul,Nat.one_mul] at hsz
  have hnc:n*size≤cap*size:=Nat.mul_le_mul_right size hcap
  have hin:(i+1)*size≤n*size:=Nat.mul_le_mul_right size Ws
  rw [Nat.add_mul,Nat.one_mul] at hin
  obtain⟨cur',q1,q2,q3⟩:=xM g' c (i*size) w cur hh
  refine⟨⟨?_,.inr ⟨g',cap,cur',rfl,hb,q1,hcap,hm,by rw [q2];exact hs,?_⟩⟩,?_,yo _ _ _ _⟩
  ·rw [bF (size:=size) _ (fun x hx=>by
    rcases List.mem_or_eq_of_mem_set hx with hx | rfl
    ·exact hls x hx
    ·exact hc),List.length_set,hn]
  ·apply List.ext_getElem?
   intro j
   rw [flat_set ls i c hls hc,List.getElem?_take]
   by_cases hj:j<n*size
   ·rw [if_pos hj,Array.getElem?_toList,q3 j Ws,hc]
    by_cases q:i*size≤j∧j<i*size+size
    ·rw [if_pos q,if_pos ⟨Ws,q⟩]
    ·rw [if_neg q,if_neg (fun q'=>q q'.2),← ht,List.getElem?_take,if_pos hj,Array.getElem?_toList]
   ·rw [if_neg hj,if_neg Ws,List.getElem?_eq_none (by rw [hfl,hn];omega)]
  ·intro j hj
   have hl:i*size+j<cur.size:=Ws
   have hcell:w.cell? ⟨g',i*size+j,none⟩=some cur[i*size+j]:=za hh (by simp [hl])
   exact⟨by rw [hcell];rfl,zh hh⟩
section
variable {α : Type} [Inhabited α]
theorem sort_world (enc:α→List Value) (k:Nat) {w:World}{g e:Nat}{cur:Array Value}(hh:w.heap[g]? = some (.cells cur e (0,0))) (m:Nat) (d:Array α) (os:Array Obj) (hs:d.size*k≤cur.size) :
  zb [g] w (sortWorldK enc k w g 0 m d os)∧∃ cur',(sortWorldK enc k w g 0 m d os).heap[g]? = some (.cells cur' e (0,0))∧cur'.size=cur.size∧∀ t,t<cur.size→cur'[t]? = if t<d.size*k then some (enc d[t/k]!)[t%k]! else cur[t]?:=by
 have hg:=lt_of_block hh
 have h0:∀ j,(sortWorldK enc k w g 0 m d os).heap[j]? = if j<w.heap.size then (w.heap.modify g (Sort.onCells (Sort.putCells id 0 (flatK enc k d))))[j]? else os[j-w.heap.size]?:=by
  intro j
  show ((w.heap.modify g (Sort.onCells (Sort.putCells id 0 (flatK enc k d))))++os)[j]? = _
  rw [Array.getElem?_append,Array.size_modify]
 refine⟨⟨rfl,rfl,rfl,?_,?_⟩,Sort.putCells id 0 (flatK enc k d) cur,?_,by simp [Sort.putCells],?_⟩
 ·show w.heap.size≤((w.heap.modify g (Sort.onCells (Sort.putCells id 0 (flatK enc k d))))++os).size
  rw [Array.size_append,Array.size_modify];omega
 ·intro j hj hx
  rw [h0,if_pos hj,Array.getElem?_modify,if_neg (by simp at hx;omega)]
 ·rw [h0,if_pos hg,Array.getElem?_modify,if_pos rfl,hh]
  rfl
 ·intro t ht
  simp only [Sort.putCells,Array.getElem?_mapIdx,Nat.zero_le,true_and,Nat.zero_add,Nat.sub_zero,size_flatK,id]
  rw [Array.getElem?_eq_getElem ht]
  by_cases q:t<d.size*k
  ·rw [if_pos q,Option.map_some,if_pos q,get_flatK enc k d t q]
  ·rw [if_neg q,Option.map_some,if_neg q]
end
def cmpZ (a b:ByteArray):Int:=if ltB a b=true then -1 else if ltB b a=true then 1 else 0
theorem less_eq (a b:ByteArray):Op.bytesLess a.toList b.toList=ltB a b:=by
 rw [ByteArray.toList_eq,ByteArray.toList_eq,Y8]
 rfl
theorem compare_any (a b:ByteArray) (w:World):Calls Tryz.prog 218 #[.string a,.string b] w fun e w'=>e = .returned (.int .i64 (cmpZ a b))∧w=w':=by
 by_cases h1:ltB a b=true
 ·have f1:Op.bytesLess a.toList b.toList=true:=by rw [less_eq];exact h1
  have HF:Hid (cmpZ a b = -1):=qI (by unfold cmpZ;rw [if_pos h1])
  clear h1
  go_enter func218,ntmps218
  go_wp2
  go_ret
  rw [HF.o]
  exact⟨rfl,rfl⟩
 have f1:Op.bytesLess a.toList b.toList=false:=by rw [less_eq];simpa using h1
 by_cases h2:ltB b a=true
 ·have hne:a≠b:=fun e=>by subst e;exact h1 h2
  have f2:=(ke hne).1
  have HF:Hid (cmpZ a b=1):=qI (by unfold cmpZ;rw [if_neg h1,if_pos h2])
  clear h1 h2 hne
  go_enter func218,ntmps218
  go_wp2
  go_ret
  rw [HF.o]
  exact⟨rfl,rfl⟩
 ·have he:a=b:=ltB_none h1 h2
  have f2:=(ky he).1
  have HF:Hid (cmpZ a b=0):=qI (by unfold cmpZ;rw [if_neg h1,if_neg h2])
  clear h1 h2 he
  go_enter func218,ntmps218
  go_wp2
  go_ret
  rw [HF.o]
  exact⟨rfl,rfl⟩
structure PC where
 key:ByteArray
 k:Int
 m:Int
 s:ByteArray
 p:Option Addr
 i:Nat
 c:Nat
 q:Option Addr
 j:Nat
 d:Nat
instance pcInh:Inhabited PC:=⟨⟨⟨#[]⟩,0,0,⟨#[]⟩,none,0,0,none,0,0⟩⟩
def PC.cs (x:PC):List Value:=[.int .i64 x.k,.int .i64 x.m,.string x.s,.slice x.p x.i x.c,.slice x.q x.j x.d]
def PC.enc (x:PC):List Value:=.string x.key::x.cs
def PC.cf (x y:PC):Int:=cmpZ x.key y.key
theorem PC.enc_len (x:PC):x.enc.length=6:=rfl
theorem PC.enc_one (x:PC):∀ v∈x.enc,v.oneCell'=true:=by
 intro v hv
 simp only [PC.enc,PC.cs,List.mem_cons,List.not_mem_nil,or_false] at hv
 rcases hv with rfl | rfl | rfl | rfl | rfl | rfl <;> rfl
theorem byKey_any (x y:PC) (w:World):Calls Tryz.prog 208 #[.agg x.enc.toArray,.agg y.enc.toArray] w fun e w'=>e = .returned (.int .i64 (x.cf y))∧w'=grow (w.drewN 0) #[.cells x.enc.toArray 132,.cells y.enc.toArray 132]:=by
 obtain⟨key,k,m,s,p,i,c,q,j,d⟩:=x
 obtain⟨key',k',m',s',p',i',c',q',j',d'⟩:=y
 have HW:Hid (grow (w.drewN 0) #[.cells #[.string key,.int .i64 k,.int .i64 m,.string s,.slice p i c,.slice q j d] 132,.cells #[.string key',.int .i64 k',.int .i64 m',.string s',.slice p' i' c',.slice q' j' d'] 132]=(w.alloc (.cells #[.string key,.int .i64 k,.int .i64 m,.string s,.slice p i c,.slice q j d] 132)).alloc (.cells #[.string key',.int .i64 k',.int .i64 m',.string s',.slice p' i' c',.slice q' j' d'] 132)):=qI (by
  rw [Sort.alloc_eq_grow,Sort.alloc_eq_grow,Sort.grow_grow];rfl)
 show Calls Tryz.prog 208 #[.agg #[.string key,.int .i64 k,.int .i64 m,.string s,.slice p i c,.slice q j d],.agg #[.string key',.int .i64 k',.int .i64 m',.string s',.slice p' i' c',.slice q' j' d']] w fun e w'=>e = .returned (.int .i64 (cmpZ key key'))∧w'=grow (w.drewN 0) #[.cells #[.string key,.int .i64 k,.int .i64 m,.string s,.slice p i c,.slice q j d] 132,.cells #[.string key',.int .i64 k',.int .i64 m',.string s',.slice p' i' c',.slice q' j' d'] 132]
 rw [HW.o]
 go_enter func208,ntmps208
 go_wp2_with (go_at_call 218;refine (compare_any key key' _).mono ?_;rintro e w2 ⟨rfl,rfl⟩)
 go_ret
 exact⟨rfl,rfl⟩
theorem ltOf_key (x y:PC):ltOf PC.cf x y=ltB x.key y.key:=by
 unfold ltOf PC.cf cmpZ
 by_cases h1:ltB x.key y.key=true
 ·rw [if_pos h1,h1];rfl
 ·rw [if_neg h1]
  have h1':ltB x.key y.key=false:=by simpa using h1
  rw [h1']
  split <;> rfl
theorem swo_keys:Sort.SWO (ltOf PC.cf):=by
 have e:=ltOf_key
 refine⟨fun x=>?_,fun x y z h1 h2=>?_,fun x y z h1 h2=>?_⟩
 ·rw [e];unfold ltB;simp
 ·rw [e] at h1 h2 ⊢
  unfold ltB at *
  rw [decide_eq_true_iff] at *
  exact List.lt_trans h1 h2
 ·rw [e] at h1 h2 ⊢
  unfold ltB at *
  rw [decide_eq_false_iff_not] at *
  rw [List.not_lt] at *
  exact List.le_trans h2 h1
theorem agg_pair (w:World):(isAgg 132).run Tryz.prog w = .ok true w:=isAgg132 w
theorem size_pair (w:World):(Go.sizeOf 132).run Tryz.prog w = .ok 6 w:=sizeOf132 w
theorem enter_byKey:∀ (args:Array Value) (w:World),(callFunc 208 args).run Tryz.prog w = .ok (.enter 208 args) w:=enters_of func208 Wr rfl
theorem enc_get (ds:List PC) (t:Nat) (h:t<ds.length*6):(ds.flatMap PC.enc)[t]? = some (((ds[t/6]'(Ws)).enc)[t%6]!):=by
 have h1:ds.flatMap PC.enc=(ds.map PC.enc).flatten:=by simp [List.flatMap]
 have h2:=kM (size:=6) (ds.map PC.enc) (t/6) (t%6) (by intro c hc;obtain⟨x,_,rfl⟩:=List.mem_map.1 hc;rfl) (by simp;omega) Ws
 have e:t/6*6+t%6=t:=Ws
 rw [e] at h2
 rw [h1,h2,List.getElem_map]
 have hl:t%6<(ds[t/6]'(Ws)).enc.length:=by rw [PC.enc_len];omega
 rw [List.getElem?_eq_getElem hl]
 congr 1
 exact (getElem!_pos (ds[t/6]'(Ws)).enc (t%6) hl).symm
theorem YR (ds:List PC):(ds.flatMap PC.enc).length=ds.length*6:=by
 induction ds with
 | nil=>rfl
 | cons x ds ih=>rw [List.flatMap_cons,List.length_append,ih,PC.enc_len,List.length_cons];omega
theorem sortPairs_any {w:World}{B g n cap:Nat}{ms:List PC}(hrow:w.ownsRow B 132 6 (.slice (some ⟨g,0,none⟩) n cap) n (ms.flatMap PC.enc)) (hn:ms.length=n) (h63:n≤1000000) :
  Calls Tryz.prog 207 #[.slice (some ⟨g,0,none⟩) n cap,.func (.func 208) #[] #[]] w fun e w'=>
   e = .returned (.tuple #[])∧∃ ds:List PC,ds.Perm ms∧ds.Pairwise (fun x y=>ltB y.key x.key=false)∧w'.ownsRow B 132 6 (.slice (some ⟨g,0,none⟩) n cap) n (ds.flatMap PC.enc)∧zb [g] w w':=by
 subst hn
 obtain⟨hl,hr⟩:=hrow
 obtain⟨cur,hb,hh,hc,hm,hs,ht⟩:∃ cur,B≤g∧w.heap[g]? = some (.cells cur 132 (0,0))∧ms.length≤cap∧cap≤maxLen∧cur.size=cap*6∧cur.toList.take (ms.length*6)=ms.flatMap PC.enc:=by
  rcases hr with ⟨h,_⟩ | ⟨g',cap',cur,hv,r1,r2,r3,r4,r5,r6⟩
  ·cases h
  ·simp only [Value.slice.injEq,Option.some.injEq,Addr.mk.injEq,and_true,true_and] at hv
   obtain⟨rfl,rfl⟩:=hv
   exact⟨cur,r1,r2,r3,r4,r5,r6⟩
 have hmc:ms.length*6≤cap*6:=Nat.mul_le_mul_right 6 hc
 have hH:HoldsK PC.enc 6 w g 0 ms.toArray:=by
  intro j hj
  rw [size_flatK] at hj
  have hj':j<ms.length*6:=by simpa using hj
  rw [get_flatK _ _ _ _ hj,Nat.zero_add]
  have h1:cur[j]? = some ((ms[j/6]'(Ws)).enc[j%6]!):=by
   rw [← enc_get ms j hj',← ht,List.getElem?_take,if_pos hj',Array.getElem?_toList]
  refine⟨?_,zh hh⟩
  rw [za hh h1]
  have h2:j/6<ms.toArray.size:=by simp;omega
  rw [getElem!_pos ms.toArray (j/6) h2]
  simp
 have hcmp:CmpLays Tryz.prog 208 #[] PC.enc 6 PC.cf g 0 ms.toArray.size w:=by
  intro m os dk _ x y
  exact (byKey_any x y _).mono fun e w' ⟨h1,h2⟩=>⟨h1,0,_,h2⟩
 refine (AnyQ.slices_SortFunc Tryz.shSort 6 agg_pair size_pair PC.enc PC.enc_len PC.enc_one PC.cf swo_keys 208 #[] g 0 cap ms.toArray w enter_byKey hcmp hH (lt_of_block hh) (by simp;omega)).mono ?_
 rintro e w' ⟨rfl,d',m,os,hp,hsrt,rfl⟩
 obtain⟨p1,_,p3⟩:=hp
 have hsz:d'.size=ms.length:=by simpa using p1
 obtain⟨q1,cur',q2,q3,q4⟩:=sort_world PC.enc 6 hh m d' os (by rw [hsz,hs];exact hmc)
 have hperm:d'.toList.Perm ms:=by
  have h1:(d'.extract 0 ms.toArray.size)=d':=by rw [← p1];exact Array.extract_size
  have h2:(ms.toArray.extract 0 ms.toArray.size)=ms.toArray:=Array.extract_size
  rw [h1,h2] at p3
  simpa using p3
 refine⟨rfl,d'.toList,hperm,?_,⟨?_,.inr ⟨g,cap,cur',rfl,hb,q2,hc,hm,by rw [q3];exact hs,?_⟩⟩,q1⟩
 ·rw [List.pairwise_iff_getElem]
  intro i j hi hj hij
  have hi':i<d'.size:=by simpa using hi
  have hj':j<d'.size:=by simpa using hj
  have h1:=hsrt i j (Nat.zero_le _) hij (by rw [← p1];exact hj')
  rw [getElem!_pos d' i hi',getElem!_pos d' j hj'] at h1
  have h2:ltOf PC.cf d'[j] d'[i]=ltB d'[j].key d'[i].key:=ltOf_key _ _
  rw [h2] at h1
  simpa using h1
 ·rw [YR,Array.length_toList,hsz]
 ·apply List.ext_getElem?
  intro t
  rw [List.getElem?_take]
  by_cases h1:t<ms.length*6
  ·rw [if_pos h1,Array.getElem?_toList,q4 t Ws,if_pos (by rw [hsz];exact h1),enc_get d'.toList t (by rw [Array.length_toList,hsz];exact h1)]
   have h2:t/6<d'.size:=Ws
   rw [getElem!_pos d' (t/6) h2]
   simp
  ·rw [if_neg h1,List.getElem?_eq_none (by rw [YR,Array.length_toList,hsz];omega)]
theorem row_cells {w:World}{base e size n o g:Nat}{v:Value}{xs c:List Value}(h:w.ownsRow base e size v n xs) (hv:v.ownBlock=some g) (ho:o+c.length≤n*size) :
  (∃ ys,(w.setCells g o c).ownsRow base e size v n ys∧ys.length=xs.length∧∀ j,ys[j]? = if o≤j∧j<o+c.length then c[j-o]? else xs[j]?)∧w.there g o c.length∧zb [g] w (w.setCells g o c):=by
 obtain⟨h1,h2⟩:=h
 rcases h2 with ⟨rfl,_⟩ | ⟨g',cap,cur,rfl,hb,hh,hcap,hm,hs,ht⟩
 ·simp [Value.ownBlock] at hv
 ·simp [Value.ownBlock] at hv
  subst hv
  have hnc:n*size≤cap*size:=Nat.mul_le_mul_right size hcap
  obtain⟨cur',q1,q2,q3⟩:=xM g' c o w cur hh
  have hget:∀ j,(cur'.toList.take (n*size))[j]? = if o≤j∧j<o+c.length then c[j-o]? else xs[j]?:=by
   intro j
   rw [List.getElem?_take]
   by_cases hj:j<n*size
   ·rw [if_pos hj,Array.getElem?_toList,q3 j Ws]
    by_cases q:o≤j∧j<o+c.length
    ·rw [if_pos q,if_pos q]
    ·rw [if_neg q,if_neg q,← ht,List.getElem?_take,if_pos hj,Array.getElem?_toList]
   ·rw [if_neg hj,if_neg Ws,List.getElem?_eq_none Ws]
  have hlen:(cur'.toList.take (n*size)).length=n*size:=by rw [List.length_take,Array.length_toList,q2,hs];omega
  refine⟨⟨cur'.toList.take (n*size),⟨hlen,.inr ⟨g',cap,cur',rfl,hb,q1,hcap,hm,by rw [q2];exact hs,rfl⟩⟩,by rw [hlen,h1],hget⟩,?_,yo _ _ _ _⟩
  intro j hj
  have hl:o+j<cur.size:=Ws
  have hcell:w.cell? ⟨g',o+j,none⟩=some cur[o+j]:=za hh (by simp [hl])
  exact⟨by rw [hcell];rfl,zh hh⟩
theorem take_set {α β:Type}(f:α→β) (g:α→β) (l:List α) (k:Nat) (h:k<l.length):((l.take k).map f++(l.drop k).map g).set k (f l[k])=(l.take (k+1)).map f++(l.drop (k+1)).map g:=by
 rw [xK f l k h,List.drop_eq_getElem_cons h,List.map_cons,List.set_append]
 have e:((l.take k).map f).length=k:=by simp;omega
 rw [if_neg Ws,e,Nat.sub_self,List.set_cons_zero,List.append_assoc]
 rfl
theorem mixed_get {α β:Type}(f:α→β) (g:α→β) (l:List α) (k:Nat) (h:k<l.length):((l.take k).map f++(l.drop k).map g)[k]? = some (g l[k]):=by
 have e:((l.take k).map f).length=k:=by simp;omega
 rw [List.getElem?_append_right Ws,e,Nat.sub_self,List.drop_eq_getElem_cons h]
 rfl
theorem right_nodup {n:Nat}{v:VS (V n)}(h:zr (n+1) v=true):(v.m.map (fun p=>p.1)).Nodup:=by
 rcases jh (jf h) with q | q | q | q | q | q
 ·rw [q.2.2.2.2];exact List.nodup_nil
 ·rw [q.2.2.2.2];exact List.nodup_nil
 ·rw [q.2.2.2.2];exact List.nodup_nil
 ·rw [q.2.2.2.2];exact List.nodup_nil
 ·rw [q.2.2.2];exact List.nodup_nil
 ·have:=q.2.2.2.2
  unfold xA at this
  rw [Bool.and_eq_true,decide_eq_true_iff] at this
  exact this.2
theorem pcs_of {n:Nat}{S:Nat→Prop}{w:World}:∀ {mcs:List (ByteArray×List Value)}{ms:List (ByteArray×V n)},zH (vS (Rep n S w)) mcs ms→∃ ds:List PC,mcs=ds.map (fun x=>(x.key,x.cs))∧yk mcs=ds.flatMap PC.enc:=by
 intro mcs
 induction mcs with
 | nil=>intro ms _;exact⟨[],rfl,rfl⟩
 | cons p mcs ih=>
  intro ms h
  match ms,h with
  | [],h=>exact absurd h.1 Wz
  | q::ms,h=>
   obtain⟨ds,h1,h2⟩:=ih (ms:=ms) ⟨by simpa using h.1,fun j a b ha hb=>h.2 (j+1) a b (by simpa using ha) (by simpa using hb)⟩
   have hr:=(h.2 0 p q rfl rfl).2
   obtain⟨key,cs⟩:=p
   obtain⟨k,m,s,a,b,e⟩:=hr.five
   simp only at e
   subst e
   obtain⟨p1,i,c,q1,j,d,rfl,rfl⟩:=hr.sl
   refine⟨⟨key,k,m,s,p1,i,c,q1,j,d⟩:: ds,by rw [List.map_cons,h1];rfl,?_⟩
   rw [List.flatMap_cons,← h2]
   rfl
theorem Slc.at6 {w:World}{x:Value}{m:Nat}{ms:List (ByteArray×List Value)}(h:Slc w 6 x m (yk ms)) (h6:∀ c,c∈ms.map xg→c.length=6) {j:Nat}(hj:j<ms.length) {k i:Int}{s:ByteArray}{a b:Value}(e:ms[j].2=[.int .i64 k,.int .i64 i,.string s,a,b]) :
  ∃ g o cap,x = .slice (some ⟨g,o,none⟩) m cap∧w.cell? ⟨g,o+j*6,none⟩=some (.string ms[j].1)∧w.cell? ⟨g,o+j*6+1,none⟩=some (.int .i64 k)∧w.cell? ⟨g,o+j*6+2,none⟩=some (.int .i64 i)∧w.cell? ⟨g,o+j*6+3,none⟩=some (.string s)∧w.cell? ⟨g,o+j*6+4,none⟩=some a∧w.cell? ⟨g,o+j*6+5,none⟩=some b:=by
 rw [qN] at h
 have hl:=bF (ms.map xg) h6
 rw [List.length_map] at hl
 have hm:=h.1
 rcases h.2 with ⟨_,h0⟩ | ⟨h0,_⟩ | ⟨g,o,cap,hsv,_,_,hrow⟩
 ·omega
 ·omega
 have hc:∀ i,i<6→(ms.map xg).flatten[j*6+i]? = (xg ms[j])[i]?:=fun i hi=>by
  rw [kM (ms.map xg) j i h6 (by simpa using hj) hi,List.getElem_map]
 have e2:xg ms[j]=[.string ms[j].1,.int .i64 k,.int .i64 i,.string s,a,b]:=by
  show Value.string ms[j].1::ms[j].2=_
  rw [e]
 rw [e2] at hc
 refine⟨g,o,cap,hsv,?_,?_,?_,?_,?_,?_⟩
 ·exact hrow.cells (j*6+0) _ (hc 0 Wo)
 all_goals rw [Nat.add_assoc]
 ·exact hrow.cells (j*6+1) _ (hc 1 Wo)
 ·exact hrow.cells (j*6+2) _ (hc 2 Wo)
 ·exact hrow.cells (j*6+3) _ (hc 3 Wo)
 ·exact hrow.cells (j*6+4) _ (hc 4 Wo)
 ·exact hrow.cells (j*6+5) _ (hc 5 Wo)
theorem pair_set {ms:List (ByteArray×List Value)}(h6:∀ c,c∈ms.map xg→c.length=6) {k:Nat}(hk:k<ms.length) {c ys:List Value}(hc:c.length=5)
  (hy:∀ j,ys[j]? = if k*6+1≤j∧j<k*6+1+c.length then c[j-(k*6+1)]? else (yk ms)[j]?):ys=yk (ms.set k (ms[k].1,c)):=by
 apply List.ext_getElem?
 intro j
 rw [hy j,qN,qN,List.map_set,flat_set (size:=6) (ms.map xg) k (xg (ms[k].1,c)) h6 (by simp [xg,hc]),List.length_map,hc]
 by_cases q:k*6+1≤j∧j<k*6+1+5
 ·rw [if_pos q,if_pos ⟨hk,Ws,Ws⟩]
  show _=(Value.string ms[k].1::c)[j-k*6]?
  rw [show j-k*6=(j-(k*6+1))+1 by omega,List.getElem?_cons_succ]
 ·rw [if_neg q]
  by_cases q2:j=k*6
  ·subst q2
   rw [if_pos ⟨hk,Ws,Ws⟩,Nat.sub_self]
   have:=kM (size:=6) (ms.map xg) k 0 h6 (by simpa using hk) Wo
   rw [Nat.add_zero] at this
   rw [this,List.getElem_map]
   rfl
  ·rw [if_neg Ws]
def vY {α:Type}(v:VS α) (m:Int) (s:ByteArray) (l k:Nat):Prop:=
 (v.kind=1∧m=0∧s=⟨#[]⟩∧l=0∧k=0)∨(v.kind=2∧(v.num=0∨v.num=1)∧m=v.num∧s=⟨#[]⟩∧l=0∧k=0) ∨
 (v.kind=3∧(-9007199254740991≤v.num∧v.num≤9007199254740991)∧m=v.num∧s=⟨#[]⟩∧l=0∧k=0)∨(v.kind=4∧zQ v.s=true∧m=0∧s=v.s∧l=0∧k=0) ∨
 (v.kind=5∧m=0∧s=⟨#[]⟩∧l=v.l.length∧k=0)∨(v.kind=6∧m=0∧s=⟨#[]⟩∧l=0∧k=v.m.length)
theorem qL {α:Type}(l:List α):l.isEmpty=decide (l.length=0):=by cases l <;> simp
theorem bare_own {α:Type}{v:VS α}{m:Int}{s:ByteArray}{l k:Nat}(h:vY v m s l k) :
  zx v=(decide (v.num=m)&&decide (v.s=s)&&decide (v.l.length=l)&&decide (v.m.length=k)&&(if v.kind=6 then xA v.m else true)):=by
 unfold zx bi
 simp only [qL]
 rcases h with ⟨h1,rfl,rfl,rfl,rfl⟩ | ⟨h1,h2,rfl,rfl,rfl,rfl⟩ | ⟨h1,h2,rfl,rfl,rfl,rfl⟩ | ⟨h1,h2,rfl,rfl,rfl,rfl⟩ | ⟨h1,rfl,rfl,rfl,rfl⟩ | ⟨h1,rfl,rfl,rfl,rfl⟩
 ·rw [h1];simp
 ·rw [h1];simp [h2]
 ·rw [h1];simp [h2]
 ·rw [h1];simp [h2,Bool.and_assoc]
 ·rw [h1];simp
 ·rw [h1]
  simp only [if_neg (show ¬ ((6:Int)=1) by decide),if_neg (show ¬ ((6:Int)=2) by decide),if_neg (show ¬ ((6:Int)=3) by decide),if_neg (show ¬ ((6:Int)=4) by decide),if_neg (show ¬ ((6:Int)=5) by decide),if_pos]
  cases xA v.m <;> cases decide (v.num=0) <;> cases decide (v.s=⟨#[]⟩) <;> cases decide (v.l.length=0) <;> simp
def qH {α:Type}(r:α→Bool):List ByteArray→List (ByteArray×α)→Bool
 | _,[]=>true
 | seen,p::t=>zQ p.1&&r p.2 && !(seen.any (fun k=>decide (k=p.1)))&&qH r (seen++[p.1]) t
theorem JG {α:Type}(r:α→Bool):∀ (m:List (ByteArray×α)) (seen:List ByteArray),seen.Nodup →
  (qH r seen m=true↔(∀ p,p∈m→zQ p.1=true∧r p.2=true)∧(seen++m.map (fun p=>p.1)).Nodup)
 | [],seen,hs=>by simp [qH,hs]
 | p::t,seen,hs=>by
  unfold qH
  rw [Bool.and_eq_true,Bool.and_eq_true,Bool.and_eq_true]
  by_cases hk:p.1∈seen
  ·have h1:(seen.any (fun k=>decide (k=p.1)))=true:=List.any_eq_true.2 ⟨p.1,hk,Wz⟩
   rw [h1]
   constructor
   ·rintro ⟨⟨_,h⟩,_⟩;simp at h
   ·rintro ⟨_,h⟩
    exact absurd hk (fun q=>by
     have:=(List.nodup_append.1 h).2.2 p.1 q p.1 Wz
     exact this rfl)
  ·have h1:(seen.any (fun k=>decide (k=p.1)))=false:=by
    rw [List.any_eq_false]
    intro x hx e
    exact hk (by rw [decide_eq_true_iff] at e;rw [← e];exact hx)
   have hs':(seen++[p.1]).Nodup:=by
    refine List.nodup_append.2 ⟨hs,Wz,?_⟩
    intro a ha b hb e
    simp at hb
    exact hk (by rw [← hb,← e];exact ha)
   rw [h1,JG r t (seen++[p.1]) hs']
   simp only [List.map_cons,List.append_assoc,List.cons_append,List.nil_append,Bool.not_false,and_true,List.mem_cons,forall_eq_or_imp]
   constructor
   ·rintro ⟨h2,h3,h4⟩;exact⟨⟨h2,h3⟩,h4⟩
   ·rintro ⟨⟨h2,h3⟩,h4⟩;exact⟨h2,h3,h4⟩
theorem pairsOk_all {α:Type}(r:α→Bool) (m:List (ByteArray×α)):qH r [] m=(xA m&&m.all (fun p=>r p.2)):=by
 rw [Bool.eq_iff_iff,JG r m [] List.nodup_nil,Bool.and_eq_true]
 unfold xA
 rw [Bool.and_eq_true,List.all_eq_true,List.all_eq_true,decide_eq_true_iff,List.nil_append]
 constructor
 ·rintro ⟨h1,h2⟩;exact⟨⟨fun p hp=>(h1 p hp).1,h2⟩,fun p hp=>(h1 p hp).2⟩
 ·rintro ⟨⟨h1,h2⟩,h3⟩;exact⟨fun p hp=>⟨h1 p hp,h3 p hp⟩,h2⟩
theorem right_bare {n:Nat}{v:VS (V n)}{m:Int}{s:ByteArray}{l k:Nat}(h:vY v m s l k) :
  zr (n+1) v=(decide (v.num=m)&&decide (v.s=s)&&decide (v.l.length=l)&&decide (v.m.length=k)&&v.l.all (zr n)&&qH (zr n) [] v.m):=by
 have e:zr (n+1) v=(zx v&&v.kids.all (zr n)):=rfl
 have ek:v.kids.all (zr n)=(v.l.all (zr n)&&v.m.all (fun p=>zr n p.2)):=by
  unfold VS.kids
  rw [List.all_append,List.all_map]
  rfl
 rw [e,bare_own h,ek,pairsOk_all]
 by_cases h6:v.kind=6
 ·rw [if_pos h6]
  cases xA v.m <;> cases v.l.all (zr n) <;> cases v.m.all (fun p=>zr n p.2) <;> simp
 ·rw [if_neg h6]
  have hk:k=0:=by
   rcases h with h | h | h | h | h | h
   ·exact h.2.2.2.2
   ·exact h.2.2.2.2.2
   ·exact h.2.2.2.2.2
   ·exact h.2.2.2.2.2
   ·exact h.2.2.2.2
   ·exact absurd h.1 h6
  subst hk
  by_cases hm:v.m.length=0
  ·have:=List.eq_nil_of_length_eq_zero hm
   rw [this]
   cases v.l.all (zr n) <;> simp [xA]
  ·simp [hm]
structure yi (b:Nat) (w w':World):Prop where
 os:w'.os=w.os
 tape:w'.tape=w.tape
 output:w'.output=w.output
 size:w.heap.size≤w'.heap.size
 block:∀ k,k<w.heap.size→k≠b→kind w k≠5+2→w'.heap[k]? = w.heap[k]?
theorem yi.refl (b:Nat) (w:World):yi b w w:=⟨rfl,rfl,rfl,Nat.le_refl _,fun _ _ _ _=>rfl⟩
theorem yi.trans {b:Nat}{x y z:World}(h:yi b x y) (k:yi b y z):yi b x z:=
 ⟨k.os.trans h.os,k.tape.trans h.tape,k.output.trans h.output,Nat.le_trans h.size k.size,fun i hi hb hk=>by
  have h1:=h.block i hi hb hk
  have h2:kind y i=kind x i:=by simp [kind,h1]
  exact (k.block i (Nat.lt_of_lt_of_le hi h.size) hb (by rw [h2];exact hk)).trans h1⟩
theorem yi.of {b:Nat}{X:List Nat}{w w':World}(h:zb X w w') (hX:∀ k,k∈X→k=b∨kind w k=5+2):yi b w w':=
 ⟨h.os,h.tape,h.output,h.size,fun k hk hb hn=>h.block k hk (fun e=>by rcases hX k e with g | g;exact hb g;exact hn g)⟩
theorem yi.of0 {b:Nat}{w w':World}(h:zb [] w w'):yi b w w':=.of h Wz
theorem yi.heap {b:Nat}{w w':World}(h:yi b w w') {k:Nat}{o:Obj}(ho:w.heap[k]? = some o) (hb:k≠b) (hk:kind w k≠5+2):w'.heap[k]? = some o:=
 (h.block k (lt_of_block ho) hb hk).trans ho
structure BW (T:Nat) (W:World) (b:Nat) (w:World) (l:List UInt8):Prop where
 blk:∃ p v,(p = .pointer none∨p = .pointer (some ⟨b,0,none⟩))∧w.heap[b]? = some (.cells #[p,v] T (0,0))∧w.ownsRow W.heap.size 5 1 v l.length (l.map bv)
 kept:zb [b] W w
 lt:b<W.heap.size
theorem BW.stay {T:Nat}{W:World}{b:Nat}{w w':World}{l:List UInt8}(h:BW T W b w l) (k:zb [] w w'):BW T W b w' l:=by
 obtain⟨p,v,hp,hb,hr⟩:=h.blk
 exact⟨⟨p,v,hp,k.heap hb Wz,zo hr k Wz⟩,h.kept.then k,h.lt⟩
theorem BW.new {T:Nat}{W:World}{b:Nat}(h:W.heap[b]? = some (.cells #[.pointer none,.slice none 0 0] T (0,0))):BW T W b W []:=
 ⟨⟨_,_,.inl rfl,h,World.ownsRow_nil _ _ _ _⟩,Wd,lt_of_block h⟩
def Ke (T:Nat):Prop:=liesAt Tryz.prog Tryz.prog.depth T (2/Tryz.prog.cellsOf T) 0 125 1=true
theorem qd:Ke 125:=by unfold Ke;kernel_rfl
theorem xC:Ke 200:=by unfold Ke;kernel_rfl
theorem shape_of {w:World}{b:Nat}{c:Array Value}{t:Nat}{f:Nat×Nat}(h:w.heap[b]? = some (.cells c t f)):w.shape? b=some (t,c.size):=by simp [World.shape?,h]
theorem ptr_same (w:World) (b:Nat):(binOp .neq 123 (.pointer (some ⟨b,0,none⟩)) (.pointer (some ⟨b,0,none⟩))).run Tryz.prog w = .ok (.bool false) w:=by
 have h1:(Tryz.prog.info? 125).map (·.size)=some 2:=Wr
 obtain⟨j,hj,_⟩:=Option.map_eq_some_iff.1 h1
 exact Lib.run_neq_ptr_same w _ underlying123 hj
theorem to_unsafe {w:World}{b:Nat}{p v:Value}{T:Nat}(hb:w.heap[b]? = some (.cells #[p,v] T (0,0))):(convert 123 205 (.pointer (some ⟨b,0,none⟩))).run Tryz.prog w = .ok (.pointer (some ⟨b,0,none⟩)) w:=by
 have h1:(Tryz.prog.info? 125).map (·.size)=some 2:=Wr
 obtain⟨j,hj,hs⟩:=Option.map_eq_some_iff.1 h1
 exact Lib.run_to_unsafe w ⟨b,0,none⟩ underlying123 underlying205 hj (by rw [hs];decide) (shape_of hb) Wz
theorem from_unsafe {w:World}{b:Nat}{p v:Value}{T:Nat}(hT:Ke T) (hb:w.heap[b]? = some (.cells #[p,v] T (0,0))):(convert 205 123 (.pointer (some ⟨b,0,none⟩))).run Tryz.prog w = .ok (.pointer (some ⟨b,0,none⟩)) w:=by
 have h1:(Tryz.prog.info? 125).map (·.size)=some 2:=Wr
 obtain⟨j,hj,_⟩:=Option.map_eq_some_iff.1 h1
 exact Lib.run_from_unsafe w ⟨b,0,none⟩ underlying205 underlying123 hj (shape_of hb) hT
theorem YA {T:Nat}(hT:Ke T) {w:World}{b:Nat}{p v:Value}(hp:p = .pointer none∨p = .pointer (some ⟨b,0,none⟩)) (hb:w.heap[b]? = some (.cells #[p,v] T (0,0))) :
  Calls Tryz.prog 119 #[.pointer (some ⟨b,0,none⟩)] w fun e w'=>e = .returned (.tuple #[])∧w'.heap[b]? = some (.cells #[.pointer (some ⟨b,0,none⟩),v] T (0,0))∧zb [b] w w':=by
 have HB:=qI hb
 have c0:=za (o:=0) (v:=p) hb rfl
 have f0:=zh (o:=0) hb
 have e1:=to_unsafe hb
 have e2:=from_unsafe hT hb
 clear hb
 rcases hp with rfl | rfl
 ·go_enter func119,ntmps119
  go_wp2_with fail
  rw [run_callFunc_extern func155 Wr Wr Wr (e:=Extern.AbiNoEscape.same) Wr]
  rw [Lib.run_noEscape]
  simp only [Result.andThen]
  rw [Oper.upon_value]
  go_wp2_with fail
  go_end0
  exact⟨rfl,zg HB.o rfl,Wd.setCell (.inl Wz) _⟩
 ·have e3:=ptr_same w b
  go_enter func119,ntmps119
  go_wp2_with fail
  go_end0
  exact⟨rfl,HB.o,Wd⟩
theorem YK:yU Tryz.prog 53 5 1 1 (.int .u8 0):=⟨underlying53,Wr,rfl,Wo⟩
theorem BW.opened {T:Nat}{W:World}{b:Nat}{w:World}{l:List UInt8}(h:BW T W b w l):∃ p a c,(p = .pointer none∨p = .pointer (some ⟨b,0,none⟩))∧w.heap[b]? = some (.cells #[p,.slice a l.length c] T (0,0))∧w.ownsRow W.heap.size 5 1 (.slice a l.length c) l.length (l.map bv):=by
 obtain⟨p,v,hp,hb,hr⟩:=h.blk
 obtain⟨a,c,rfl,-,-⟩:=(Slc.of_row hr).form
 exact⟨p,a,c,hp,hb,hr⟩
theorem BW.wrote {T:Nat}{W:World}{b:Nat}{w w1 w2:World}{l l':List UInt8}{a a':Option Addr}{c n' c':Nat}(h:BW T W b w l) (hr:w.ownsRow W.heap.size 5 1 (.slice a l.length c) l.length (l.map bv))
  (hb1:w1.heap[b]? = some (.cells #[.pointer (some ⟨b,0,none⟩),.slice a l.length c] T (0,0))) (hk1:zb [b] w w1) (hr2:w2.ownsRow W.heap.size 5 1 (.slice a' n' c') n' (l'.map bv)) (hn:l'.length=n') (hk2:zb (Value.slice a l.length c).ownBlock.toList w1 w2) :
  w2.cell? ⟨b,1,none⟩=some (.slice a l.length c)∧w2.frozen? ⟨b,1,none⟩=false∧BW T W b (w2.setCell ⟨b,1,none⟩ (.slice a' n' c')) l'∧yi b w (w2.setCell ⟨b,1,none⟩ (.slice a' n' c')):=by
 subst hn
 have hlt:=h.lt
 have hnb:b ∉ (Value.slice a l.length c).ownBlock.toList:=fun hx=>by
  have:=(hr.lt _ (Option.mem_toList.1 hx)).1;omega
 have hb2:=hk2.heap hb1 hnb
 have kX:zb (b::(Value.slice a l.length c).ownBlock.toList) w (w2.setCell ⟨b,1,none⟩ (.slice a' l'.length c')):=
  ((hk1.mono (Y:=b::(Value.slice a l.length c).ownBlock.toList) Wz).trans' (hk2.mono (fun i hi=>List.mem_cons_of_mem _ hi))).setCell (p:=⟨b,1,none⟩) (.inl (List.mem_cons_self ..)) _
 refine⟨za hb2 rfl,zh hb2,⟨⟨_,_,.inr rfl,zg hb2 rfl,?_⟩,?_,hlt⟩,yi.of kX ?_⟩
 ·exact zo hr2 ((zb.refl [b] w2).setCell (p:=⟨b,1,none⟩) (.inl Wz) _) (fun g hg hx=>by
   simp at hx;have:=(hr2.lt g hg).1;omega)
 ·exact h.kept.trans kX (fun i hi=>by
   rcases List.mem_cons.1 hi with rfl | hi
   ·exact .inl Wz
   ·exact .inr (hr.lt i (Option.mem_toList.1 hi)).1)
 ·intro k hk
  rcases List.mem_cons.1 hk with rfl | hk
  ·exact .inl rfl
  ·exact .inr (yp hr (Option.mem_toList.1 hk))
theorem qb {T:Nat}(hT:Ke T) {W w:World}{b:Nat}{l:List UInt8}(h:BW T W b w l) (hl:l.length≤100000000) (x:UInt8) :
  Calls Tryz.prog 83 #[.pointer (some ⟨b,0,none⟩),.int .u8 x.toNat] w fun e w'=>e = .returned .nilIface∧BW T W b w' (l++[x])∧yi b w w':=by
 obtain⟨p,a,c,hp,hb,hr⟩:=h.opened
 have H:=qI h
 have HR:=qI hr
 have CC:=qI (YA hT hp hb)
 have Ge:Hid (b<W.heap.size∧W.heap.size≤w.heap.size):=qI ⟨h.lt,h.kept.size⟩
 clear h hp hb hr
 go_enter func83,ntmps83
 go_wp2_with (first
  | (go_at_call 119;refine CC.o.mono ?_;rintro e w1 ⟨rfl,hb1,hk1⟩;have c1:=za (o:=1) (v:=.slice a l.length c) hb1 rfl;have Gf:=qI hb1;have Gc:=qI hk1;clear hb1 hk1)
  | (at_builtin;refine zk YK (zo HR.o (Gc.o.then ((zb.refl [] w1).alloc (.cells #[.int .u8 x.toNat] 5))) (by intro g hg hx;have h1:=(HR.o.lt g hg).1;have h2:=Ge.o;simp at hx;omega)) (jK w1 (bv x) 5 _ rfl) (by simp [bv,Value.oneCell']) (by simp only [maxLen];omega) Ws (by have h1:=Ge.o;have h2:=Gc.o.size;simp;omega) rfl _ _ rfl rfl rfl ?_;intro v2 w2 hown2 hk2 _ hb2;obtain⟨a2,c2,rfl,-,-⟩:=(Slc.of_row hown2).form;obtain⟨g1,g2,g3,g4⟩:=BW.wrote (l':=l++[x]) H.o HR.o (((zb.refl [] w1).alloc (.cells #[.int .u8 x.toNat] 5)).heap Gf.o Wz) (Gc.o.then ((zb.refl [] w1).alloc (.cells #[.int .u8 x.toNat] 5))) (by rw [List.map_append];exact hown2) Wz hk2;have G3:=qI g3;have G4:=qI g4;clear hown2 hk2 hb2 g3 g4))
 go_ret
 exact⟨rfl,G3.o,G4.o⟩
theorem jm {T:Nat}(hT:Ke T) {W w:World}{b:Nat}{l:List UInt8}(h:BW T W b w l) (hl:l.length≤100000000) (s:ByteArray) (hs:s.size≤100000000) :
  Calls Tryz.prog 182 #[.pointer (some ⟨b,0,none⟩),.string s] w fun e w'=>e = .returned (.tuple #[.int .i64 s.size,.nilIface])∧BW T W b w' (l++s.data.toList)∧yi b w w':=by
 obtain⟨p,a,c,hp,hb,hr⟩:=h.opened
 obtain⟨i0,hi,hz0,hz1,hz2⟩:=info_parts YK.info
 have H:=qI h
 have HR:=qI hr
 have HI:=qI hi
 have HZ:=qI (And.intro hz0 (And.intro hz1 hz2))
 have CC:=qI (YA hT hp hb)
 have Ge:Hid (b<W.heap.size∧W.heap.size≤w.heap.size):=qI ⟨h.lt,h.kept.size⟩
 have HL:Hid (s.data.toList.length=s.size):=qI Wz
 clear h hp hb hr hi hz0 hz1 hz2
 go_enter func182,ntmps182
 go_wp2_with (first
  | (go_at_call 119;refine CC.o.mono ?_;rintro e w1 ⟨rfl,hb1,hk1⟩;have c1:=za (o:=1) (v:=.slice a l.length c) hb1 rfl;have Gf:=qI hb1;have Gc:=qI hk1;clear hb1 hk1)
  | (at_builtin;refine Lib.wpList_append_own_string _ rfl _ _ 53 9 rfl W.heap.size 5 i0 underlying53 underlying9 HI.o HZ.o.1 HZ.o.2.1 HZ.o.2.2 (.slice a l.length c) l.length (l.map bv) rfl (zo HR.o Gc.o (by intro g hg hx;have h1:=(HR.o.lt g hg).1;have h2:=Ge.o;simp at hx;omega)) s rfl (by simp only [maxLen];omega) Ws (by have h1:=Ge.o;have h2:=Gc.o.size;omega) ?_;intro v2 w2 hown2 hg2 _;obtain⟨a2,c2,rfl,-,-⟩:=(Slc.of_row hown2).form;obtain⟨g1,g2,g3,g4⟩:=BW.wrote (l':=l++s.data.toList) H.o HR.o Gf.o Gc.o (by rw [List.map_append];exact hown2) (by rw [List.length_append,HL.o]) (Wd.grown hg2 (fun k e=>.inl (by simp [e])));have G3:=qI g3;have G4:=qI g4;clear hown2 hg2 g3 g4))
 go_ret2
 exact⟨rfl,G3.o,G4.o⟩
theorem Q5 {w:World}{g:Nat}(n:Nat):zb [g] w (w.freeze ⟨g,0,none⟩ n):=by
 have h:=Lib.below_freeze (Below.refl 0 w) (p:=⟨g,0,none⟩) (Nat.zero_le _) n
 refine⟨h.os,h.tape,h.output,h.size,fun k hk hx=>?_⟩
 unfold World.freeze
 split
 ·rfl
 ·simp only [Array.getElem?_modify]
  rw [if_neg (by simp at hx;omega)]
theorem Zz {T:Nat}{W w:World}{b:Nat}{l:List UInt8}(h:BW T W b w l) (hl:l.length≤100000000) (h0:l≠[]) :
  Calls Tryz.prog 84 #[.pointer (some ⟨b,0,none⟩)] w fun e w'=>e = .returned (.string (yc l))∧zb [b] W w'∧yi b w w':=by
 obtain⟨p,a,c,hp,hb,hr⟩:=h.opened
 have Ge:Hid (b<W.heap.size∧W.heap.size≤w.heap.size):=qI ⟨h.lt,h.kept.size⟩
 have Ga:=qI h.kept
 have c1:=za (o:=1) (v:=.slice a l.length c) hb rfl
 have hl0:l.length≠0:=by simpa using h0
 obtain⟨g,cap,cur,hv,hg,hbg,hnc,hcm,hcs,htake⟩:∃ g cap cur,(Value.slice a l.length c) = .slice (some ⟨g,0,none⟩) l.length cap∧W.heap.size≤g∧w.heap[g]? = some (.cells cur 5 (0,0))∧l.length≤cap∧cap≤maxLen∧cur.size=cap*1∧cur.toList.take (l.length*1)=l.map bv:=by
  rcases hr.2 with ⟨_,hz⟩ | ⟨g,cap,cur,hv,r1,r2,r3,r4,r5,r6⟩
  ·exact absurd hz hl0
  ·exact⟨g,cap,cur,hv,r1,r2,r3,r4,r5,r6⟩
 simp only [Value.slice.injEq] at hv
 obtain⟨rfl,-,rfl⟩:=hv
 have hrow:∀ j x,l[j]? = some x→w.drew.cell? ((⟨g,0,none⟩:Addr).add j)=some (.int .u8 x.toNat):=by
  intro j x hx
  have h2:=(Slc.of_row hr).2
  rcases h2 with ⟨h3,_⟩ | ⟨h3,_⟩ | ⟨g',o',cap',hv',_,_,hrow⟩
  ·cases h3
  ·exact absurd h3 hl0
  ·simp only [Value.slice.injEq,Option.some.injEq,Addr.mk.injEq] at hv'
   obtain⟨⟨rfl,rfl,-⟩,-,-⟩:=hv'
   exact hrow.adds j (bv x) (by simp [hx])
 have hSD:∀ W':World,(Builtin.unsafeSliceData_ #[53] 168 #[.slice (some ⟨g,0,none⟩) l.length c]).run Tryz.prog W' = .ok (.pointer (some ⟨g,0,none⟩)) W':=fun W'=>Lib.run_unsafeSliceData_row _ _ _ _ _ _ Ws
 have hUS:(Builtin.unsafeString_ #[168,3] 9 #[.pointer (some ⟨g,0,none⟩),.int .i64 l.length]).run Tryz.prog w.drew = .ok (.string (yc l)) (w.drew.freeze ⟨g,0,none⟩ l.length):=
  Lib.run_unsafeString_row w.drew 168 3 9 5 underlying168 Wr g cur.size (by have hg':w.drew.heap[g]? = some (.cells cur 5 (0,0)):=hbg;simp [World.shape?,hg']) l h0 Ws Ws hrow
 have HK:Hid (zb [g] w (w.drew.freeze ⟨g,0,none⟩ l.length)):=qI ((zb.refl [g] w).drew.trans' (Q5 l.length))
 have HG:Hid (W.heap.size≤g∧kind w g=5+2):=qI ⟨hg,zM hbg⟩
 have Gt:=qI hSD
 have Gj:=qI hUS
 have hgb:b≠g:=by have:=Ge.o;omega
 clear h hp hb hr hbg hnc hcm hcs htake hrow hl0 hSD hUS hg h0
 go_enter func84,ntmps84
 go_wp2_with fail
 refine zv (n:=12) (fun w':World=>w'.cell? ⟨b,1,none⟩=some (.slice (some ⟨g,0,none⟩) l.length c)) 11 Wr Wr ?_
 change zX _ _ _ _ _ _ _ _ _ w.drew
 have hSS:(fun w':World=>w'.cell? ⟨b,1,none⟩=some (.slice (some ⟨g,0,none⟩) l.length c)) w.drew:=c1
 clear c1
 revert hSS Gj HK
 generalize w.drew=W2
 intro HK Gj hSS
 refine zL ?_
 intro O R hO hR
 have hQp:jC R:=by subst hR;exact fun _ _ _ _ _ h=>h
 refine qT 0 ?_ hO rfl rfl Wr hQp (fun w hSw=>?_) hSS ?_
 rotate_left
 ·exact zi
 try simp only [zA,zN,zB,zC,zD]
 refine qT 1 ?_ hO rfl rfl Wr hQp (fun w hSw=>?_) hSS ?_
 rotate_left
 ·exact zi
 try simp only [zA,zN,zB,zC,zD]
 refine qT 2 ?_ hO rfl rfl Wr hQp (fun w hSw=>?_) hSS ?_
 rotate_left
 ·exact zi
 try simp only [zA,zN,zB,zC,zD]
 refine qT 3 ?_ hO rfl rfl Wr hQp (fun w hSw=>?_) hSS ?_
 rotate_left
 ·exact zi
 try simp only [zA,zN,zB,zC,zD]
 refine qT 5 ?_ hO rfl rfl Wr hQp (fun w hSw=>?_) hSS ?_
 rotate_left
 ·exact zi
 try simp only [zA,zN,zB,zC,zD]
 refine qT 6 ?_ hO rfl rfl Wr hQp (fun w hSw=>?_) hSS ?_
 rotate_left
 ·exact zi
 try simp only [zA,zN,zB,zC,zD]
 refine qT 7 ?_ hO rfl rfl Wr hQp (fun w hSw=>?_) hSS ?_
 rotate_left
 ·exact zi
 try simp only [zA,zN,zB,zC,zD]
 refine qT 8 ?_ hO rfl rfl Wr hQp (fun w hSw=>?_) hSS ?_
 rotate_left
 ·exact zi
 try simp only [zA,zN,zB,zC,zD]
 refine qT 9 ?_ hO rfl rfl Wr hQp (fun w hSw=>?_) hSS ?_
 rotate_left
 ·exact zi
 try simp only [zA,zN,zB,zC,zD]
 have hSD:=Gt.o
 refine qT 4 ?_ hO rfl rfl Wr hQp (fun w hSw=>?_) hSS ?_
 rotate_left
 ·exact zi
 try simp only [zA,zN,zB,zC,zD]
 have hUS:=Gj.o
 refine qO 10 hO rfl Wr (fun K hK=>?_)
 go_simp
 have hS2:(fun w':World=>w'.cell? ⟨b,1,none⟩=some (.slice (some ⟨g,0,none⟩) l.length c)) (W2.freeze ⟨g,0,none⟩ l.length):=(Q5 l.length).cell hSS (by simpa using hgb)
 refine hK _ _ (.inr hS2) ?_
 clear hK K
 try simp only [zA,zN,zB,zC,zD]
 clear hSS
 have hSS:=hS2
 clear hS2 hSD hUS
 refine qO 11 hO rfl Wr (fun K hK=>?_)
 go_simp
 refine hK _ _ (.inl rfl) ?_
 clear hK K
 try simp only [zA,zN,zB,zC,zD]
 refine zF hO Wr ?_ _
 subst hR
 try clear hQp hO O
 go_wp2_with fail
 go_ret
 refine⟨rfl,Ga.o.trans HK.o (fun i hi=>by simp at hi;subst hi;exact .inr HG.o.1),yi.of HK.o (fun i hi=>by simp at hi;subst hi;exact .inr HG.o.2)⟩
open Go.Lib (decodeL)
structure qC (w:World):Prop where
 utf:Lib.Utf8Tabs (Tryz.shDecode_ren.g 3) (Tryz.shDecode_ren.g 4) w
 pow : Lib.TabIs Tryz.prog w "internal/strconv.uint64pow10" .u64 Lib.pow10Tab
theorem qC.kept0 {w w':World}(h:qC w) (k:zb [] w w'):qC w':=by
 obtain⟨h1,h3⟩:=h
 refine⟨⟨fun c hc=>k.cell (h1.1 c hc) Wz,fun i hi=>⟨k.cell (h1.2 i hi).1 Wz,k.cell (h1.2 i hi).2 Wz⟩⟩,?_⟩
 ·have hs : (Tryz.prog.globalNamed "internal/strconv.uint64pow10").isSome = true := by kernel_rfl
  obtain⟨g,hg⟩:=Option.isSome_iff_exists.1 hs
  exact Go.Joins.tab_stays hg h3 (k.below (Nat.le_refl _) Wz) (Nat.le_refl _)
theorem of_below {P:Program}{f:FuncId}{args:Array Value}{w:World}{r:Ending}(h:Calls P f args w fun e w'=>e=r∧Below w.heap.size w w'):Calls P f args w fun e w'=>e=r∧zb [] w w':=
 h.mono fun _ _ ⟨h1,h2⟩=>⟨h1,zb.of_below h2⟩
theorem of_same {P:Program}{f:FuncId}{args:Array Value}{w:World}{r:Ending}(h:Calls P f args w fun e w'=>e=r∧w'=w):Calls P f args w fun e w'=>e=r∧w=w':=
 h.mono fun _ _ ⟨h1,h2⟩=>⟨h1,h2.symm⟩
theorem libValid {w:World}(ht:qC w) (s:ByteArray) (hs:s.size≤281474976710656):Calls Tryz.prog 214 #[.string s] w fun e w'=>e = .returned (.bool (zQ s))∧zb [] w w':=
 of_below (Any.utf8_ValidString Tryz.shValid s w Ws ht.utf)
theorem libIndexByte (s:ByteArray) (c:Int) (w:World):Calls Tryz.prog 129 #[.string s,.int .u8 c] w fun e w'=>e = .returned (.int .i64 (Lib.indexByte s.data.toList c.toNat.toUInt8))∧w=w':=
 of_same (Any.strings_IndexByte Tryz.shIndexByte s c w)
theorem libFormatBool (b:Bool) (w:World):Calls Tryz.prog 183 #[.bool b] w fun e w'=>e = .returned (.string (yc (Lib.formatBool b)))∧w=w':=
 of_same (Any.strconv_FormatBool Tryz.shFormatBool b w)
theorem kept_grow {w:World}(n:Nat) (os:Array Obj):zb [] w (Sort.grow (w.drewN n) os):=
 ⟨rfl,rfl,rfl,by simp [Sort.grow],fun k hk _=>by
  show (w.heap++os)[k]? = w.heap[k]?
  rw [Array.getElem?_append_left hk]⟩
theorem libItoa {w:World}(ht:qC w) (n:Int) (h0:-9223372036854775808≤n) (h1:n≤9223372036854775807):Calls Tryz.prog 184 #[.int .i64 n] w fun e w'=>e = .returned (.string (yc (Lib.itoa n)))∧zb [] w w':=
 (Any.strconv_Itoa Tryz.shItoa n h0 h1 w ht.pow).mono fun e w' ⟨h1,k,os,h2⟩=>⟨h1,by rw [h2];exact kept_grow k os⟩
theorem libTrim (s cs:ByteArray) (w:World) (hs:s.size≤281474976710656) (h1:cs.size≤100) (h2:∀ (j:Nat) b,cs.data.toList[j]? = some b→b.toNat<128):Calls Tryz.prog 127 #[.string s,.string cs] w fun e w'=>e = .returned (.string (yc (Lib.trimS s.data.toList cs.data.toList)))∧zb [] w w':=
 of_below (Any.strings_Trim_laid Tryz.shTrim Wr s cs w Ws Ws h2)
theorem JJ {w:World}(ht:qC w) (s:ByteArray) (hs:s.size≤281474976710656):CL w 202 #[.string s] (.bool (zQ s)):=by
 have C:=qI (libValid ht s hs)
 clear ht
 go_enter func202,ntmps202
 go_wp2_with (go_at_call 214;refine C.o.mono ?_;rintro e w2 ⟨rfl,hk2⟩)
 go_ret
 exact⟨rfl,hk2⟩
theorem zp.at {w:World}{a:Option Addr}{c:Nat}{l:List UInt8}(h:zp w (.slice a l.length c) l) {k:Nat}(hk:k<l.length):∃ g o,a=some ⟨g,o,none⟩∧w.cell? ⟨g,o+k,none⟩=some (.int .u8 l[k].toNat):=by
 rcases h.2 with ⟨_,h0⟩ | ⟨h0,_⟩ | ⟨g,o,cap,hv,_,_,hrow⟩
 ·omega
 ·omega
 ·simp only [Value.slice.injEq] at hv
  exact⟨g,o,hv.1,hrow.cells k (bv l[k]) (by simp [hk])⟩
def kQ (l:List UInt8):List UInt8:=l.flatMap (fun c=>[qy (c.toNat/16),qy (c.toNat%16)])
theorem hexL_snoc (l:List UInt8) (c:UInt8):kQ (l++[c])=(kQ l++[qy (c.toNat/16)])++[qy (c.toNat%16)]:=by simp [kQ]
theorem vA:∀ (l:List UInt8),(kQ l).length=2*l.length
 | []=>rfl
 | c::l=>by
  have:=vA l
  simp only [kQ,List.flatMap_cons,List.length_append,List.length_cons,List.length_nil] at *
  omega
theorem hexc:∀ (k:Nat) (h:k<16),(⟨#[48,49,50,51,52,53,54,55,56,57,97,98,99,100,101,102]⟩:ByteArray)[k]'h=qy k:=by
 have h:∀ k:Fin 16,(⟨#[48,49,50,51,52,53,54,55,56,57,97,98,99,100,101,102]⟩:ByteArray)[k.val]'k.isLt=qy k.val:=Wo
 exact fun k hk=>h ⟨k,hk⟩
theorem Ko {w:World}{a:Option Addr}{c:Nat}{l:List UInt8}(h:zp w (.slice a l.length c) l) (hl:l.length≤1000000) (h0:l≠[]) :
  CL w 44 #[.slice a l.length c] (.string (yc (kQ l))):=by
 have H:=qI h
 obtain⟨W0,Gb⟩:∃ W0,Hid (W0=w.alloc (.cells #[.pointer none,.slice none 0 0] 125)):=⟨_,qI rfl⟩
 have Gg:Hid (zb [] w W0):=qI (kA1 Gb.o)
 have Gk:Hid (BW 125 W0 w.heap.size W0 []):=qI (BW.new (by rw [Gb.o];exact zd rfl))
 clear h
 go_enter func44,ntmps44
 go_wp2_with fail
 rw [← Gb.o]
 go_loopw [8] (fun i wr=>∃ k:Nat,i = .int .i64 k∧k≤l.length∧BW 125 W0 w.heap.size wr (kQ (l.take k))) (fun i _=>l.length-(intOf i).toNat)
 case atStart=>exact⟨0,rfl,Nat.zero_le _,Gk.o⟩
 case round=>
  obtain⟨k,rfl,hk,hb⟩:=hrel
  have HB:=qI hb
  have Ga:Hid (zb [] w wr):=qI (Gg.o.trans hb.kept (by intro i hi;simp at hi;subst hi;exact .inr (Nat.le_refl _)))
  clear hb
  by_cases hlt:k<l.length
  ·have hltI:(k:Int)<l.length:=by omega
   obtain⟨g,o,rfl,q0⟩:=zp.at (H.o.kept0 Ga.o) hlt
   have hx:(l[k].toNat:Int)≤255:=by have:=l[k].toNat_lt;omega
   have Gd:Hid (kQ (l.take (k+1))=(kQ (l.take k)++[qy (l[k].toNat/16)])++[qy (l[k].toNat%16)]):=qI (by rw [List.take_succ_eq_append_getElem hlt,hexL_snoc])
   revert q0 hx Gd
   generalize l[k]=x
   intro q0 hx Gd
   have hlen:(kQ (l.take k)).length≤50000000:=by rw [vA,List.length_take];omega
   go_wp2_with fail
   refine (qb qd HB.o Ws _).mono ?_
   rintro e w1 ⟨rfl,hb1,-⟩
   rw [hexc _ Ws] at hb1
   have Gf:=qI hb1
   clear hb1
   go_wp2_with fail
   refine (qb qd Gf.o (by rw [List.length_append];simp only [List.length_cons,List.length_nil];omega) _).mono ?_
   rintro e w2 ⟨rfl,hb2,-⟩
   rw [hexc _ Ws,← Gd.o] at hb2
   have Gl:=qI hb2
   clear hb2
   go_wp2_with fail
   case roundEnd=>exact⟨⟨k+1,by go_num,Ws,Gl.o⟩,by simp [intOf];omega⟩
  ·obtain rfl:k=l.length:=by omega
   have Gf:Hid (BW 125 W0 w.heap.size wr (kQ l)):=qI (by have:=HB.o;rw [List.take_length] at this;exact this)
   have H0:=qI h0
   clear h0
   have hlen:(kQ l).length≤50000000:=by rw [vA];omega
   go_wp2_with (go_at_call 84;refine (Zz Gf.o Ws (by intro e;have h1:=congrArg List.length e;rw [vA] at h1;simp only [List.length_nil] at h1;exact H0.o (List.eq_nil_of_length_eq_zero Ws))).mono ?_;rintro e w2 ⟨rfl,hk2,-⟩)
   go_ret
   exact⟨rfl,Gg.o.trans hk2 (by intro i hi;simp at hi;subst hi;exact .inr (Nat.le_refl _))⟩
theorem wbyte_34 {T:Nat}(hT:Ke T) {W w:World}{b:Nat}{l:List UInt8}(h:BW T W b w l) (hl:l.length≤100000000) :
  Calls Tryz.prog 83 #[.pointer (some ⟨b,0,none⟩),.int .u8 34] w fun e w'=>e = .returned .nilIface∧BW T W b w' (l++[34])∧yi b w w':=qb hT h hl 34
theorem wbyte_92 {T:Nat}(hT:Ke T) {W w:World}{b:Nat}{l:List UInt8}(h:BW T W b w l) (hl:l.length≤100000000) :
  Calls Tryz.prog 83 #[.pointer (some ⟨b,0,none⟩),.int .u8 92] w fun e w'=>e = .returned .nilIface∧BW T W b w' (l++[92])∧yi b w w':=qb hT h hl 92
theorem quoteB_len (c:UInt8):(yd c).length≤6:=by
 unfold yd
 split
 ·simp
 ·split <;> simp
theorem JO (s:List UInt8) (k:Nat):(((s.take k).flatMap yd)).length≤6*s.length:=by
 have h:∀ l:List UInt8,(l.flatMap yd).length≤6*l.length:=by
  intro l
  induction l with
  | nil=>simp
  | cons c l ih=>
   have:=quoteB_len c
   simp only [List.flatMap_cons,List.length_append,List.length_cons]
   omega
 have h1:=h (s.take k)
 rw [List.length_take] at h1
 omega
theorem utfQuote {w:World}(ht:qC w) (s:ByteArray) (hs:s.size≤1000000) (hv:zQ s=true) :
  CL w 206 #[.string s] (.tuple #[.string (yc (yG s.data.toList)),.int .i64 0]):=by
 have CV:=qI (JJ ht s Ws)
 rw [hv] at CV
 have HL:Hid (s.data.toList.length=s.size):=qI Wz
 clear ht hv
 go_enter func206,ntmps206
 go_wp2_with (go_at_call 202;refine CV.o.mh ?_;rintro e w1 rfl Gc)
 obtain⟨W0,Gb⟩:∃ W0,Hid (W0=w1.alloc (.cells #[.pointer none,.slice none 0 0] 125)):=⟨_,qI rfl⟩
 have Gg:Hid (zb [] w1 W0):=qI (kA1 Gb.o)
 have Gk:Hid (BW 125 W0 w1.heap.size W0 []):=qI (BW.new (by rw [Gb.o];exact zd rfl))
 rw [← Gb.o]
 refine (wbyte_34 qd Gk.o Wz).mono ?_
 rintro e w2 ⟨rfl,hb2,-⟩
 have Gl:=qI hb2
 clear hb2
 go_wp2_with fail
 go_loopw [13] (fun i wr=>∃ k:Nat,i = .int .i64 k∧k≤s.size∧BW 125 W0 w1.heap.size wr (34::(s.data.toList.take k).flatMap yd)) (fun i _=>s.size-(intOf i).toNat)
 case atStart=>exact⟨0,rfl,Nat.zero_le _,Gl.o⟩
 case round=>
  obtain⟨k,rfl,hk,hb⟩:=hrel
  have HB:=qI hb
  have Ga:Hid (zb [] w1 wr):=qI (Gg.o.trans hb.kept (by intro i hi;simp at hi;subst hi;exact .inr (Nat.le_refl _)))
  clear hb
  have hq:(34::(s.data.toList.take k).flatMap yd:List UInt8).length≤6000001:=by
   have:=JO s.data.toList k
   rw [HL.o] at this
   rw [List.length_cons]
   omega
  by_cases hlt:k<s.size
  ·have hltI:(k:Int)<s.size:=by omega
   have hlt':k<s.data.toList.length:=by rw [HL.o];exact hlt
   have Gd:Hid (34::(s.data.toList.take (k+1)).flatMap yd=(34::(s.data.toList.take k).flatMap yd)++yd (s[k]'hlt)):=qI (by
    rw [List.take_succ_eq_append_getElem hlt',List.flatMap_append,List.cons_append]
    simp only [List.flatMap_cons,List.flatMap_nil,List.append_nil]
    rfl)
   have hx:((s[k]'hlt).toNat:Int)≤255:=by have:=(s[k]'hlt).toNat_lt;omega
   clear hlt'
   revert hx Gd
   generalize 34::(s.data.toList.take k).flatMap yd=L at *
   generalize hsk:s[k]'hlt=x
   intro Gd hx
   by_cases h32:x.toNat<32
   ·have h32I:(x.toNat:Int)<32:=by omega
    have HQ:Hid (yd x=[92,117,48,48]++kQ [x]):=qI (by unfold yd;rw [if_pos h32];rfl)
    have CH:=qI (Ko (w:=wr.alloc (.cells #[.int .u8 x.toNat] 5)) (a:=some ⟨wr.heap.size,0,none⟩) (c:=1) (l:=[x]) (jK wr (bv x) 5 _ rfl) Wz Wz)
    clear h32
    go_wp2_with (go_at_call 44;refine CH.o.mono ?_;rintro e w3 ⟨rfl,hk3⟩;have Gm:=qI (((zb.refl [] wr).alloc (.cells #[.int .u8 x.toNat] 5)).then hk3);clear hk3)
    have Gr:Hid ((({ data:=#[92,117,48,48] }:ByteArray)++yc (kQ [x])).data.toList=[92,117,48,48]++kQ [x]):=qI (by
     rw [ByteArray.data_append,Array.toList_append,xZ])
    refine (jm qd (HB.o.stay Gm.o) Ws _ (by rw [← ByteArray.size_data,← Array.length_toList,Gr.o,List.length_append,vA];simp)).mono ?_
    rintro e w4 ⟨rfl,hb4,-⟩
    rw [Gr.o,← HQ.o,← Gd.o] at hb4
    have Gn:=qI hb4
    clear hb4
    go_wp2_with fail
    case roundEnd=>exact⟨⟨k+1,by go_num,Ws,Gn.o⟩,by simp [intOf];omega⟩
   ·have h32I:¬ (x.toNat:Int)<32:=by omega
    by_cases hc:x=34∨x=92
    ·have HQ:Hid (yd x=[92]++[x]):=qI (by unfold yd;rw [if_neg h32,if_pos hc];rfl)
     have hg:((x.toNat:Int) == 34)=true∨(((x.toNat:Int) == 34)=false∧((x.toNat:Int) == 92)=true):=by
      rcases hc with rfl | rfl
      ·exact .inl rfl
      ·exact .inr ⟨rfl,rfl⟩
     clear hc h32
     rcases hg with g1 | ⟨g1,g2⟩
     all_goals
      go_wp2_with fail
      refine (wbyte_92 qd HB.o Ws).mono ?_
      rintro e w3 ⟨rfl,hb3,-⟩
      have Gh:=qI hb3
      clear hb3
      go_wp2_with fail
      refine (qb qd Gh.o (by rw [List.length_append];simp only [List.length_cons,List.length_nil];omega) x).mono ?_
      rintro e w4 ⟨rfl,hb4,-⟩
      have Gn:=qI hb4
      clear hb4
      go_wp2_with fail
      case roundEnd=>exact⟨⟨k+1,by go_num,Ws,by rw [Gd.o,HQ.o,← List.append_assoc];exact Gn.o⟩,by simp [intOf];omega⟩
    ·have HQ:Hid (yd x=[x]):=qI (by unfold yd;rw [if_neg h32,if_neg hc])
     have hn:∀ v:UInt8,x≠v→((x.toNat:Int) == (v.toNat:Int))=false:=fun v hv=>(QI (fun e=>hv (UInt8.toNat_inj.1 e))).1
     have g1:((x.toNat:Int) == 34)=false:=hn 34 (fun e=>hc (.inl e))
     have g2:((x.toNat:Int) == 92)=false:=hn 92 (fun e=>hc (.inr e))
     clear hc h32 hn
     go_wp2_with fail
     refine (qb qd HB.o Ws x).mono ?_
     rintro e w3 ⟨rfl,hb3,-⟩
     have Gh:=qI hb3
     clear hb3
     go_wp2_with fail
     case roundEnd=>exact⟨⟨k+1,by go_num,Ws,by rw [Gd.o,HQ.o];exact Gh.o⟩,by simp [intOf];omega⟩
  ·obtain rfl:k=s.size:=by omega
   have HT:Hid ((34::(s.data.toList.take s.size).flatMap yd)++[34]=yG s.data.toList):=qI (by
    rw [List.take_of_length_le (by rw [HL.o];exact Nat.le_refl _)]
    rfl)
   revert hq HB HT
   generalize 34::(s.data.toList.take s.size).flatMap yd=L
   intro HB hq HT
   go_wp2_with (first
    | (go_at_call 83;refine (wbyte_34 qd HB.o Ws).mono ?_;rintro e w3 ⟨rfl,hb3,-⟩;rw [HT.o] at hb3;have Gh:=qI hb3;clear hb3)
    | (go_at_call 84;refine (Zz Gh.o (by rw [← HT.o,List.length_append];simp only [List.length_cons,List.length_nil];omega) (by unfold yG;exact List.cons_ne_nil _ _)).mono ?_;rintro e w4 ⟨rfl,hk4,-⟩))
   go_ret2
   exact⟨rfl,(Gc.o.then Gg.o).trans hk4 (by intro i hi;simp at hi;subst hi;exact .inr Gc.o.size)⟩
open Go.Maps (Keyed)
theorem keyStr:Keyed Tryz.prog 9:=Maps.string_keyed underlying9
theorem sameStr (x y:List UInt8):(Lit.string x).sameKey (.string y)=decide (x=y):=by
 by_cases h:x=y <;> simp [Lit.sameKey,h]
theorem keyOfStr (s:ByteArray) (hs:s.size≤281474976710656):keyOf Tryz.prog 9 (.string s)=some (.string s.data.toList):=Go.WideMaps.keyOf_string_mk (P:=Tryz.prog) underlying9 (by simp only [maxLen];omega)
def kb (w:World) (b:Nat) (seen:List ByteArray):Prop:=
 ∃ n M,jZ Tryz.prog w 9 b n M∧n≤seen.length∧∀ s:ByteArray,M (.string s.data.toList)=if seen.any (fun k=>decide (k=s))=true then some (Value.bool true) else none
theorem seen_new {w:World}{b:Nat}(hb:w.heap.size=b):kb (w.alloc (.map #[] 0)) b []:=by
 subst hb
 exact⟨0,_,mapAt_made _ w _,Nat.le_refl _,fun s=>by simp⟩
theorem kb.kept {w w':World}{b:Nat}{seen:List ByteArray}{X:List Nat}(h:kb w b seen) (k:zb X w w') (hb:b ∉ X):kb w' b seen:=by
 obtain⟨n,M,h1,h2,h3⟩:=h
 exact⟨n,M,h1.kept k hb,h2,h3⟩
theorem kb.kept0 {w w':World}{b:Nat}{seen:List ByteArray}(h:kb w b seen) (k:zb [] w w'):kb w' b seen:=h.kept k Wz
theorem kb.look {w:World}{b:Nat}{seen:List ByteArray}(h:kb w b seen) (s:ByteArray) (hs:s.size≤281474976710656) :
  (Instr.lookup 95 (.map (some b)) (.string s) false).run Tryz.prog w = .ok (.bool (seen.any (fun k=>decide (k=s)))) w:=by
 obtain⟨n,M,h1,h2,h3⟩:=h
 have h4:=(h1.lookup keyStr underlying95 (z:=.bool false) (zeroValue4 w) (keyOfStr s hs)).2
 rw [h4,h3 s]
 cases seen.any (fun k=>decide (k=s)) <;> rfl
theorem kb.put {w:World}{b:Nat}{seen:List ByteArray}(h:kb w b seen) (s:ByteArray) (hs:s.size≤281474976710656) (hl:seen.length≤100000000) :
  ∃ w',(Instr.mapUpdate 95 (.map (some b)) (.string s) (.bool true)).run Tryz.prog w = .ok () w'∧kb w' b (seen++[s])∧zb [b] w w':=by
 obtain⟨n,M,h1,h2,h3⟩:=h
 obtain⟨w',hr,h4,h5,_⟩:=h1.update keyStr underlying95 (by simp only [maxLen];omega) (keyOfStr s hs) (.bool true)
 refine⟨w',hr,⟨n+1,_,h4,by rw [List.length_append];simp;omega,fun t=>?_⟩,h5⟩
 show (if (Lit.string t.data.toList).sameKey (.string s.data.toList)=true then some (Value.bool true) else M (.string t.data.toList))=_
 rw [sameStr,List.any_append]
 by_cases e:t=s
 ·subst e
  rw [if_pos Wz,if_pos Wz]
 ·have h7:t.data.toList≠s.data.toList:=fun q=>e (ba_eq q)
  have h8:[s].any (fun k=>decide (k=t))=false:=by simp [Ne.symm e]
  rw [if_neg (by simpa using h7),h3 t,h8,Bool.or_false]
def bK:List ByteArray→List ByteArray→Bool
 | _,[]=>true
 | seen,k::t=>!(seen.any (fun x=>decide (x=k)))&&zQ k&&bK (seen++[k]) t
theorem keysGo_eq:∀ (l seen:List ByteArray),seen.Nodup→(bK seen l=true↔(∀ k,k∈l→zQ k=true)∧(seen++l).Nodup)
 | [],seen,hs=>by simp [bK,hs]
 | k::t,seen,hs=>by
  unfold bK
  rw [Bool.and_eq_true,Bool.and_eq_true]
  by_cases hk:k∈seen
  ·have h1:(seen.any (fun x=>decide (x=k)))=true:=List.any_eq_true.2 ⟨k,hk,Wz⟩
   rw [h1]
   constructor
   ·rintro ⟨⟨h,_⟩,_⟩;simp at h
   ·rintro ⟨_,h⟩
    exact absurd rfl ((List.nodup_append.1 h).2.2 k hk k Wz)
  ·have h1:(seen.any (fun x=>decide (x=k)))=false:=by
    rw [List.any_eq_false]
    intro x hx e
    rw [decide_eq_true_iff] at e
    exact hk (e ▸ hx)
   have hs':(seen++[k]).Nodup:=by
    refine List.nodup_append.2 ⟨hs,Wz,?_⟩
    intro a ha b hb e
    simp at hb
    exact hk (by rw [← hb,← e];exact ha)
   rw [h1,keysGo_eq t (seen++[k]) hs']
   simp only [List.append_assoc,List.cons_append,List.nil_append,Bool.not_false,true_and,List.mem_cons,forall_eq_or_imp]
   constructor
   ·rintro ⟨h2,h3,h4⟩;exact⟨⟨h2,h3⟩,h4⟩
   ·rintro ⟨⟨h2,h3⟩,h4⟩;exact⟨h2,h3,h4⟩
theorem keysGo_all {α:Type}(m:List (ByteArray×α)):bK [] (m.map (fun p=>p.1))=xA m:=by
 rw [Bool.eq_iff_iff,keysGo_eq _ [] List.nodup_nil]
 unfold xA
 rw [Bool.and_eq_true,List.all_eq_true,decide_eq_true_iff,List.nil_append]
 constructor
 ·rintro ⟨h1,h2⟩;exact⟨fun p hp=>h1 p.1 (List.mem_map.2 ⟨p,hp,rfl⟩),h2⟩
 ·rintro ⟨h1,h2⟩;exact⟨fun k hk=>by obtain⟨p,hp,rfl⟩:=List.mem_map.1 hk;exact h1 p hp,h2⟩
theorem keys_any {n:Nat}{v:VS (V n)}{S:Nat→Prop}{w:World}{cs:List Value}{vl:Value}{b:Option Addr}{e:Nat}{lcs:List (List Value)}{mcs:List (ByteArray×List Value)}
  (h:yY (Rep n S w) S w cs v vl (.slice b v.m.length e) lcs mcs) (hm:v.m.length≤20000) (hk:∀ p,p∈v.m→p.1.size≤400000) (ht:qC w) :
  CL w 203 #[.slice b v.m.length e] (.bool (xA v.m)):=by
 have H:=qI h
 have Gp:=qI hk
 have HT:=qI ht
 have Gq:=qI (keysGo_all v.m)
 obtain⟨W0,Gb⟩:∃ W0,Hid (W0=w.alloc (.map #[] 0)):=⟨_,qI rfl⟩
 have Gg:Hid (zb [] w W0):=qI (kA1 Gb.o)
 have Gu:Hid (kb W0 w.heap.size []):=qI (by rw [Gb.o];exact seen_new rfl)
 clear h hk ht
 have hmm:=@run_makeMap Tryz.prog
 go_enter func203,ntmps203
 go_wp2_with fail
 clear hmm
 rw [← Gb.o]
 go_loopw [9] (fun i wr=>∃ k:Nat,i = .int .i64 k∧k≤v.m.length∧kb wr w.heap.size ((v.m.take k).map (fun p=>p.1))∧bK ((v.m.take k).map (fun p=>p.1)) ((v.m.drop k).map (fun p=>p.1))=bK [] (v.m.map (fun p=>p.1))∧zb [] w wr) (fun i _=>v.m.length-(intOf i).toNat)
 case atStart=>exact⟨0,rfl,Nat.zero_le _,Gu.o,rfl,Gg.o⟩
 case round=>
  obtain⟨k,rfl,hk,hs,hg,hkr⟩:=hrel
  have HS:=qI hs
  have HG:=qI hg
  have Ga:=qI hkr
  clear hs hg hkr
  by_cases hlt:k<v.m.length
  ·have hltI:(k:Int)<v.m.length:=by omega
   obtain⟨g,o,cap,kd,nm,st,a1,b1,he,q0,q1,q2,q3,q4,q5,hr⟩:=H.o.at_m Ga.o k hlt
   simp only [Value.slice.injEq] at he
   obtain⟨rfl,-,rfl⟩:=he
   obtain⟨p1,i1,d1,p2,i2,d2,rfl,rfl⟩:=hr.sl
   have hks:v.m[k].1.size≤400000:=Gp.o _ (List.getElem_mem hlt)
   have Gi:Hid ((v.m.take (k+1)).map (fun p=>p.1)=(v.m.take k).map (fun p=>p.1)++[v.m[k].1]):=qI (xK _ _ _ hlt)
   have HD:Hid (bK ((v.m.take k).map (fun p=>p.1)) ((v.m.drop k).map (fun p=>p.1))=(!(((v.m.take k).map (fun p=>p.1)).any (fun x=>decide (x=v.m[k].1)))&&zQ v.m[k].1&&bK ((v.m.take k).map (fun p=>p.1)++[v.m[k].1]) ((v.m.drop (k+1)).map (fun p=>p.1)))):=qI (by
    conv=>lhs;rw [List.drop_eq_getElem_cons hlt]
    rfl)
   have hsl:((v.m.take k).map (fun p=>p.1)).length≤20000:=by rw [List.length_map,List.length_take];omega
   clear hr
   revert q0 hks Gi HD
   generalize v.m[k].1=key
   intro q0 hks Gi HD
   have HA:=qI ((zb.refl [] wr).alloc (.cells #[.string key,.int .i64 kd,.int .i64 nm,.string st,.slice p1 i1 d1,.slice p2 i2 d2] 132))
   have hlook:=(HS.o.kept0 HA.o).look key Ws
   have Gv:=qI (pbox_at (w:=wr) rfl key kd nm st (.slice p1 i1 d1) (.slice p2 i2 d2) 132)
   have CV:=qI (JJ (HT.o.kept0 (Ga.o.then HA.o)) key Ws)
   revert hlook HD CV
   generalize ((v.m.take k).map (fun p=>p.1)).any (fun x=>decide (x=key))=r
   generalize zQ key=ok
   intro HD hlook CV
   cases r with
   | true=>
    go_wp2_with fail
    go_ret
    rw [← Gq.o,← HG.o,HD.o]
    exact⟨Wz,Ga.o.then HA.o⟩
   | false=>
    cases ok with
    | false=>
     go_wp2_with (go_at_call 202;refine CV.o.mono ?_;rintro e w2 ⟨rfl,hk2⟩)
     go_ret
     rw [← Gq.o,← HG.o,HD.o]
     exact⟨Wz,(Ga.o.then HA.o).then hk2⟩
    | true=>
     go_wp2_with (go_at_call 202;refine CV.o.mono ?_;rintro e w2 ⟨rfl,hk2⟩;have Gs:=qI (HA.o.then hk2);obtain⟨y0,-,-,-,-,-⟩:=Gv.o.kept0 hk2;obtain⟨w3,hput,hs3,hk3⟩:=(HS.o.kept0 Gs.o).put key Ws Ws;have Gw:=qI hs3;have Gm:=qI hk3;clear hk2 hs3 hk3)
     case roundEnd=>
      refine⟨⟨k+1,by go_num,Ws,?_,?_,?_⟩,by simp [intOf];omega⟩
      ·rw [Gi.o];exact Gw.o
      ·rw [← HG.o,HD.o,Gi.o];simp
      ·exact (Ga.o.then Gs.o).trans Gm.o (fun i hi=>by simp at hi;subst hi;exact .inr (Nat.le_refl _))
  ·obtain rfl:k=v.m.length:=by omega
   go_wp2_with fail
   go_ret
   rw [← Gq.o,← HG.o,List.drop_length]
   exact⟨rfl,Ga.o⟩
theorem Q0:∀ (l:List (List UInt8)) (x:List UInt8),qE (l++[x])=if l=[] then x else qE l++44::x
 | [],x=>rfl
 | [a],x=>rfl
 | a::b::t,x=>by
  have ih:=Q0 (b::t) x
  rw [if_neg Wz] at ih
  rw [if_neg Wz]
  show a++(44::qE (b::t++[x]))=(a++(44::qE (b::t)))++44::x
  rw [ih]
  simp
theorem leK_of_lt {α:Type}{a b:ByteArray×α}(h:ltB a.1 b.1=true):leK a b=true:=by
 unfold ltB at h;unfold leK
 rw [decide_eq_true_iff] at *
 exact List.le_of_lt h
theorem leK_of_not {α:Type}{a b:ByteArray×α}(h:ltB a.1 b.1=false):leK b a=true:=by
 unfold ltB at h;unfold leK
 rw [decide_eq_true_iff]
 rw [decide_eq_false_iff_not,List.not_lt] at h
 exact h
theorem put_sorted {α:Type}{l:List (ByteArray×α)}{p:ByteArray×α}{k:Nat}(hs:l.Pairwise (fun x y=>leK x y=true)) (hk:k≤l.length)
  (h1:∀ j (hj:j<l.length),k≤j→ltB p.1 l[j].1=true) (h2:k=0∨∃ h:k-1<l.length,ltB p.1 (l[k-1]).1=false) :
  (l.take k++p::l.drop k).Pairwise (fun x y=>leK x y=true):=by
 have hd:l.take k++l.drop k=l:=List.take_append_drop k l
 rw [← hd,List.pairwise_append] at hs
 obtain⟨s1,s2,s3⟩:=hs
 rw [List.pairwise_append,List.pairwise_cons]
 refine⟨s1,⟨?_,s2⟩,?_⟩
 ·intro y hy
  obtain⟨j,hj,rfl⟩:=List.getElem_of_mem hy
  rw [List.length_drop] at hj
  rw [List.getElem_drop]
  exact leK_of_lt (h1 (k+j) Ws Ws)
 ·intro x hx y hy
  rcases List.mem_cons.1 hy with rfl | hy
  ·rcases h2 with rfl | ⟨h,h2⟩
   ·simp at hx
   ·have hlast:leK (l[k-1]) y=true:=leK_of_not h2
    obtain⟨j,hj,rfl⟩:=List.getElem_of_mem hx
    rw [List.length_take] at hj
    rw [List.getElem_take]
    by_cases e:j=k-1
    ·subst e;exact hlast
    ·refine kF _ _ _ ?_ hlast
     have:=(List.pairwise_iff_getElem.1 s1) j (k-1) (by rw [List.length_take];omega) (by rw [List.length_take];omega) Ws
     simpa using this
  ·exact s3 x hx y hy
theorem put_perm {α:Type}(l:List (ByteArray×α)) (p:ByteArray×α) (k:Nat):(l.take k++p::l.drop k).Perm (l++[p]):=by
 have h1:(l.take k++p::l.drop k).Perm (p::(l.take k++l.drop k)):=List.perm_middle
 rw [List.take_append_drop] at h1
 exact h1.trans (List.perm_append_singleton p l).symm
def yZ (it:Nat→List UInt8) (k:Nat):List UInt8:=qE ((List.range k).map it)
theorem je (it:Nat→List UInt8):yZ it 0=[]:=rfl
theorem ZE (it:Nat→List UInt8):yZ it 1=it 0:=rfl
theorem bE (it:Nat→List UInt8) {k:Nat}(h:0<k):yZ it (k+1)=(yZ it k++[44])++it k:=by
 unfold yZ
 rw [List.range_succ,List.map_append,List.map_cons,List.map_nil,Q0,if_neg (by
  intro e
  have:=congrArg List.length e
  simp at this
  omega)]
 simp
theorem bh (it:Nat→List UInt8) (k:Nat):(yZ it (k+1)).length=(yZ it k).length+(if k=0 then 0 else 1)+(it k).length:=by
 rcases Nat.eq_zero_or_pos k with rfl | h
 ·rw [ZE,je];simp
 ·rw [bE it h,if_neg Ws]
  simp only [List.length_append,List.length_cons,List.length_nil]
theorem jB (it:Nat→List UInt8) {k n:Nat}(h:k≤n):(yZ it k).length≤(yZ it n).length:=by
 induction n with
 | zero => obtain rfl : k = 0 := by omega
           exact Nat.le_refl _
 | succ n ih=>
  by_cases e:k=n+1
  ·subst e;exact Nat.le_refl _
  ·have:=ih Ws
   have:=bh it n
   omega
theorem preC_all {α:Type}(f:α→List UInt8) (xs:List α):yZ (fun k=>(xs.map f).getD k []) xs.length=qE (xs.map f):=by
 unfold yZ
 congr 1
 refine List.ext_getElem Wz fun i h1 h2=>?_
 simp only [List.getElem_map,List.getElem_range]
 simp only [List.length_map,List.length_range] at h1
 simp [h1]
open Go.Lib (decodeL toLowerU toLowerD mapGoD encodeRune encodeRuneZ caseA caseT lookupIdx CaseRow)
def qf (c:UInt8):Bool:=decide (48≤c.toNat∧c.toNat≤57) || decide (97≤c.toNat∧c.toNat≤102)
open Go.Lib
theorem dw_nil {α:Type}(p:α→Bool):∀ (l:List α),l.dropWhile p=[]↔∀ x,x∈l→p x=true
 | []=>by simp
 | a::l=>by
  rw [List.dropWhile_cons]
  by_cases h:p a=true
  ·rw [if_pos h,dw_nil p l]
   simp [h]
  ·rw [if_neg h]
   simp [h]
theorem trimS_nil (l cs:List UInt8):trimS l cs=[]↔l.all (cs.contains ·)=true:=by
 unfold trimS trimLeftS trimRightS
 rw [dw_nil,List.all_eq_true]
 constructor
 ·intro h
  have hz:(l.reverse.dropWhile (cs.contains ·))=[]:=by
   rcases Decidable.em ((l.reverse.dropWhile (cs.contains ·))=[]) with h1 | h1
   ·exact h1
   ·have h2:=List.head_dropWhile_not (cs.contains ·) h1
    rw [h _ (by simpa using List.head_mem h1)] at h2
    cases h2
  rw [dw_nil] at hz
  exact fun x hx=>hz x (by simpa using hx)
 ·intro h x hx
  have hx':x∈l.reverse.dropWhile (cs.contains ·):=by simpa using hx
  have:=(List.dropWhile_sublist (cs.contains ·)).subset hx'
  exact h x (by simpa using this)
def qQ:List UInt8:=[48,49,50,51,52,53,54,55,56,57,97,98,99,100,101,102]
theorem u8_ofNat (c:UInt8):UInt8.ofNat c.toNat=c:=Wz
theorem KO (c:UInt8):qQ.contains c=qf c:=by
 have h:∀ n:Fin 256,qQ.contains (UInt8.ofNat n.val)=qf (UInt8.ofNat n.val):=by decide +kernel
 have:=h ⟨c.toNat,c.toNat_lt⟩
 simpa [u8_ofNat] using this
def hv (c:UInt8):Nat:=(hexV c).getD 0
theorem YX (c:UInt8) (hc:qf c=true):indexByte qQ c=hv c∧hv c<16∧hexV c=some (hv c):=by
 have h:∀ n:Fin 256,qf (UInt8.ofNat n.val)=true→indexByte qQ (UInt8.ofNat n.val)=hv (UInt8.ofNat n.val)∧hv (UInt8.ofNat n.val)<16∧hexV (UInt8.ofNat n.val)=some (hv (UInt8.ofNat n.val)):=by decide +kernel
 have:=h ⟨c.toNat,c.toNat_lt⟩
 simp only [u8_ofNat] at this
 exact this hc
def xw:List UInt8→List UInt8
 | a::b::r=>UInt8.ofNat (hv a*16+hv b)::xw r
 | _=>[]
theorem jX:∀ (l:List UInt8),(xw l).length=l.length/2
 | []=>rfl
 | [_]=>by simp [xw]
 | a::b::r=>by
  have:=jX r
  simp only [xw,List.length_cons]
  omega
theorem Zk:∀ (l:List UInt8) (k:Nat) (h:2*k+1<l.length),∃ h2:k<(xw l).length,(xw l)[k]=UInt8.ofNat (hv l[2*k]*16+hv l[2*k+1])
 | [],k,h=>by simp at h
 | [_],k,h=>by simp at h
 | a::b::r,0,h=>⟨by simp [xw],rfl⟩
 | a::b::r,k+1,h=>by
  obtain⟨h2,h3⟩:=Zk r k (by simp only [List.length_cons] at h;omega)
  refine⟨by simp only [xw,List.length_cons];omega,?_⟩
  have e1:(a::b::r)[2*(k+1)]=r[2*k]'(by simp only [List.length_cons] at h;omega):=by
   simp only [show 2*(k+1)=2*k+1+1 by omega,List.getElem_cons_succ]
  have e2:(a::b::r)[2*(k+1)+1]=r[2*k+1]'(by simp only [List.length_cons] at h;omega):=by
   simp only [show 2*(k+1)+1=2*k+1+1+1 by omega,List.getElem_cons_succ]
  rw [e1,e2,← h3]
  rfl
def yJ (s:ByteArray):Option (List UInt8):=if s.size%2=0∧s.data.toList.all qf=true then some (xw s.data.toList) else none
section
variable {P : Program} {ops : Array Oper} {Q : Exit → Act → World → Prop} {md : Region.Mode} {S : World → Prop} {L : Nat}
theorem Zu {O:Array Oper}{i j:Nat}{oi oj:Oper}{fuel:Nat}{listed:Array Bool}{a:Act}{w:World}(hO:O=ops) (hi:ops[i]? = some oi) (hj:ops[j]? = some oj) (hr:Region.ready md ops listed=[i,j])
  (hwi:Region.wanted oi (yielded ops a.tmps)=true) (hwj:Region.wanted oj (yielded ops a.tmps)=true)
  (h1:∀ K:Act→World→Prop,(∀ a' w',(i=L∨S w')→zX P md O Q S L fuel (listed.setIfInBounds i true) a' w'→K a' w')→oi.wp P a w K Q)
  (h2:∀ K:Act→World→Prop,(∀ a' w',(j=L∨S w')→zX P md O Q S L fuel (listed.setIfInBounds j true) a' w'→K a' w')→oj.wp P a w K Q):zX P md O Q S L (fuel+1) listed a w:=by
 subst hO
 refine⟨fun h0=>(by rw [hr] at h0;cases h0),?_⟩
 rw [hr]
 intro m hm
 simp only [List.mem_cons,List.not_mem_nil,or_false] at hm
 rcases hm with rfl | rfl
 ·unfold wpOp
  rw [hi]
  simp only
  rw [if_pos hwi]
  exact .inl (h1 _ fun a' w' e1 e2=>⟨e1,e2⟩)
 ·unfold wpOp
  rw [hj]
  simp only
  rw [if_pos hwj]
  exact .inl (h2 _ fun a' w' e1 e2=>⟨e1,e2⟩)
end
theorem slc_head {P:Program}{t e size bytes:Nat}{z:Value}(T:yU P t e size bytes z) {w:World}{v:Value}{n:Nat}{xs:List Value}(h:Slc w size v n xs) (k:Nat) (hk:k≤n) :
  ∃ a c,(∀ W,(Instr.slice t v none (some (.int .i64 k)) none).run P W = .ok (.slice a k c) W)∧Slc w size (.slice a k c) k (xs.take (k*size)):=by
 obtain⟨v',-,-,h3,h4,-⟩:=h.cut T 0 k (Nat.zero_le _) hk
 obtain⟨a,c,rfl,-,-⟩:=h4.form
 exact⟨a,c,h3 rfl,by simpa using h4⟩
theorem slc_tail {P:Program}{t e size bytes:Nat}{z:Value}(T:yU P t e size bytes z) {w:World}{v:Value}{n:Nat}{xs:List Value}(h:Slc w size v n xs) (k:Nat) (hk:k≤n) :
  ∃ a c,(∀ W,(Instr.slice t v (some (.int .i64 k)) none none).run P W = .ok (.slice a (n-k) c) W)∧Slc w size (.slice a (n-k) c) (n-k) (xs.drop (k*size)):=by
 obtain⟨v',-,h3,-,h4,-⟩:=h.cut T k n hk (Nat.le_refl _)
 obtain⟨a,c,rfl,-,-⟩:=h4.form
 refine⟨a,c,h3 rfl,?_⟩
 have e2:List.take ((n-k)*size) (List.drop (k*size) xs)=List.drop (k*size) xs:=List.take_of_length_le (by rw [List.length_drop,h.1,Nat.sub_mul];exact Nat.le_refl _)
 rw [e2] at h4
 exact h4
theorem QO:∀ (l:List (ByteArray×List Value)) (k:Nat),(∀ p,p∈l→p.2.length=5)→(yk l).take (k*6)=yk (l.take k)
 | _,0,_=>by simp [yk]
 | [],k+1,_=>by simp [yk]
 | p::t,k+1,h=>by
  have hp:(xg p).length=6:=by simp [xg,h p (List.mem_cons_self ..)]
  rw [List.take_succ_cons]
  show List.take ((k+1)*6) (xg p++yk t)=xg p++yk (t.take k)
  rw [List.take_append,List.take_of_length_le Ws,hp,show (k+1)*6-6=k*6 by omega,QO t k (fun q hq=>h q (List.mem_cons_of_mem _ hq))]
theorem QV:∀ (l:List (ByteArray×List Value)) (k:Nat),(∀ p,p∈l→p.2.length=5)→(yk l).drop (k*6)=yk (l.drop k)
 | _,0,_=>by simp
 | [],k+1,_=>by simp [yk]
 | p::t,k+1,h=>by
  have hp:(xg p).length=6:=by simp [xg,h p (List.mem_cons_self ..)]
  rw [List.drop_succ_cons]
  show List.drop ((k+1)*6) (xg p++yk t)=yk (t.drop k)
  rw [List.drop_append,List.drop_eq_nil_of_le Ws,hp,show (k+1)*6-6=k*6 by omega,QV t k (fun q hq=>h q (List.mem_cons_of_mem _ hq)),List.nil_append]
theorem slc_six {w:World}{x:Value}{m:Nat}{ms:List (ByteArray×List Value)}(h:Slc w 6 x m (yk ms)) (h6:∀ c,c∈ms.map xg→c.length=6) {j:Nat}(hj:j<ms.length) :
  ∃ g o cap,x = .slice (some ⟨g,o,none⟩) m cap∧w.cell? ⟨g,o+j*6,none⟩=some (.string ms[j].1):=by
 obtain⟨hl,h⟩:=h
 have hf:=bF (ms.map xg) h6
 rw [← qN,List.length_map] at hf
 rcases h with ⟨rfl,h0⟩ | ⟨h0,_⟩ | ⟨g,o,cap,rfl,-,-,hr⟩
 ·omega
 ·omega
 ·refine⟨g,o,cap,rfl,hr.cells (j*6) _ ?_⟩
  have:=kM (ms.map xg) j 0 h6 (by simpa using hj) Ws
  rw [← qN,Nat.add_zero] at this
  rw [this]
  simp [xg]
theorem nodup_right {n:Nat}{v:VS (V n)}(h:zr (n+1) v=true):(v.m.map (fun p=>p.1)).Nodup:=by
 rcases jh (jf h) with g | g | g | g | g | g
 ·rw [g.2.2.2.2];simp
 ·rw [g.2.2.2.2];simp
 ·rw [g.2.2.2.2];simp
 ·rw [g.2.2.2.2];simp
 ·rw [g.2.2.2];simp
 ·have h5:=g.2.2.2.2
  unfold xA at h5
  rw [Bool.and_eq_true] at h5
  simpa using h5.2
theorem Z6 (a b:ByteArray):Op.bytesLess a.toList b.toList=ltB a b:=by
 have e:∀ (l m:List UInt8),Op.bytesLess l m=decide (l<m):=by
  intro l
  induction l with
  | nil=>intro m;cases m <;> simp [Op.bytesLess]
  | cons a x ih=>
   intro m
   cases m with
   | nil=>simp [Op.bytesLess]
   | cons b y=>
    unfold Op.bytesLess
    rw [ih,Bool.eq_iff_iff]
    simp only [Bool.or_eq_true,Bool.and_eq_true,decide_eq_true_eq,beq_iff_eq,List.cons_lt_cons_iff]
 rw [ByteArray.toList_eq,ByteArray.toList_eq,e]
 rfl
theorem gtr_yes {a b:ByteArray}(h:ltB b a=true):Op.bytesLess a.toList b.toList=false∧(a.toList == b.toList)=false:=by
 have h1:ltB a b=false:=by
  cases h2:ltB a b with
  | false=>rfl
  | true=>exact absurd h2 (ltB_asymm h)
 exact⟨by rw [Z6];exact h1,(ke (fun e=>by subst e;rw [h] at h1;cases h1)).1⟩
theorem gtr_no {a b:ByteArray}(h:ltB b a=false):(!Op.bytesLess a.toList b.toList && !a.toList == b.toList)=false:=by
 rw [Z6]
 cases h2:ltB a b with
 | true=>rfl
 | false=>
  have e:=ltB_none (a:=a) (b:=b) (by rw [h2];decide) (by rw [h];decide)
  subst e
  rw [(ky rfl).1]
  rfl
theorem zH.take {α β:Type}{R:α→β→Prop}{xs:List α}{ys:List β}(h:zH R xs ys) (k:Nat):zH R (xs.take k) (ys.take k):=by
 refine⟨by rw [List.length_take,List.length_take,h.1],fun j x y hx hy=>?_⟩
 rw [List.getElem?_take] at hx hy
 split at hx
 ·rename_i hj
  rw [if_pos hj] at hy
  exact h.2 j x y hx hy
 ·cases hx
theorem zH.drop {α β:Type}{R:α→β→Prop}{xs:List α}{ys:List β}(h:zH R xs ys) (k:Nat):zH R (xs.drop k) (ys.drop k):=by
 refine⟨by rw [List.length_drop,List.length_drop,h.1],fun j x y hx hy=>?_⟩
 rw [List.getElem?_drop] at hx hy
 exact h.2 (k+j) x y hx hy
theorem K7 {α:Type}{R:List Value→α→Prop}{xs:List (ByteArray×List Value)}{ys:List (ByteArray×α)}(h:zH (vS R) xs ys) (hR:∀ c y,R c y→∀ u∈c,u.oneCell'=true):∀ u∈yk xs,u.oneCell'=true:=by
 intro u hu
 unfold yk at hu
 rw [List.mem_flatMap] at hu
 obtain⟨p,hp,hu⟩:=hu
 obtain⟨y,-,hy⟩:=h.mem_left hp
 rcases List.mem_cons.1 hu with rfl | hu
 ·rfl
 ·exact hR _ _ hy.2 u hu
theorem kept_cell (w:World) (p o:Nat) (v:Value):zb [p] w (w.setCell ⟨p,o,none⟩ v):=(zb.refl [p] w).setCell (p:=⟨p,o,none⟩) (.inl Wz) v
structure InsL {n:Nat}(W:World) (b3:Nat) (v:VS (V n)) (k:Nat) (wr:World) (vl:Value) (lcs:List (List Value)):Prop where
 blk:wr.heap[b3]? = some (.cells (vH v.kind v.num v.s vl (.slice none 0 0)) 25 (0,0))
 row:wr.ownsRow W.heap.size 25 5 vl k lcs.flatten
 all:zH (Rep n (fun g=>W.heap.size≤g∧vl.ownBlock≠some g) wr) lcs ((v.l.take k).map (zy n))
 kept:zb [b3] W wr
structure InsM {n:Nat}(W:World) (b3:Nat) (v:VS (V n)) (vl:Value) (k:Nat) (wr:World) (vm:Value) (mcs:List (ByteArray×List Value)) (ms:List (ByteArray×V n)):Prop where
 blk:wr.heap[b3]? = some (.cells (vH v.kind v.num v.s vl vm) 25 (0,0))
 row:wr.ownsRow W.heap.size 132 6 vm ms.length (yk mcs)
 all:zH (vS (Rep n (fun g=>W.heap.size≤g∧vm.ownBlock≠some g) wr)) mcs ms
 kept:zb [b3] W wr
 ord:ms.Pairwise (fun x y=>leK x y=true)
 perm:ms.Perm ((v.m.take k).map (qK (zy n)))
 lim:ms.length=k
end Go.Proofs.YtibnfbglanpoiaaGreatDoor

/- Parts of one proof, merged: XSh XKM XVP XVU XVW. -/
import Derived.Shelf.Strings.Prefix
import Derived.Shelf.Small.Strs
import Derived.Shelf.Small.Utf8
import Derived.Shelf.Small.Wraps
import Derived.Shelf.Strconv.Itoa3
import Derived.Shelf.Unicode.DecodeAny
import Derived.Shelf.Unicode.ValidAny
import Derived.Shelf.Strings.SlTrimAscii
import Derived.Shelf.SlicesQ.IndexFunc
import Derived.Shelf.SlGeneric
import Derived.Ground.NamesProg
import Derived.Ground.SlgfProg
import Derived.Test.YtibnfbglanpoiaaGreatDoorProg
import Derived.Test.YtibnfbglanpoiaaGreatDoorQcD
import Derived.Test.YtibnfbglanpoiaaGreatDoorQcB
import Derived.Lib.SpaceU
import Derived.Lib.DecodeN
import Derived.Lib.ValidLaws
set_option linter.all false
set_option maxHeartbeats 12800000
set_option maxRecDepth 10000
set_option linter.unusedVariables false
set_option linter.unusedSimpArgs false
set_option linter.unnecessarySimpa false
namespace Go.Proofs
open Go.Shelf
def Tryz.shIndexByte_ren:Go.Shelf.Ren:=⟨fun | 137=>129 | 217=>169 | 266=>201 | n=>n,fun | 9=>9 | 5=>5 | 3=>3 | n=>n,fun | n=>n⟩
theorem Tryz.shIndexByte:Go.Proofs.Lays.n137 Tryz.prog Tryz.shIndexByte_ren:={
 mixed:=by kernel_rfl
 f137:=func129.trans (by kernel_rfl)
 f217:=func169.trans (by kernel_rfl)
 f266:=func201.trans (by kernel_rfl)
 t3:=underlying3
 a3:=isAgg3
 z3:=sizeOf3
 v3:=zeroValue3
 t5:=underlying5
 a5:=isAgg5
 z5:=sizeOf5
 v5:=zeroValue5
 t9:=underlying9
 a9:=isAgg9
 z9:=sizeOf9
 v9:=zeroValue9 }
def Tryz.shFormatBool_ren:Go.Shelf.Ren:=⟨fun | 121=>183 | 214=>204 | n=>n,fun | 4=>4 | 9=>9 | n=>n,fun | n=>n⟩
theorem Tryz.shFormatBool:Go.Proofs.Lays.n121 Tryz.prog Tryz.shFormatBool_ren:={
 mixed:=by kernel_rfl
 f121:=func183.trans (by kernel_rfl)
 f214:=func204.trans (by kernel_rfl)
 t4:=underlying4
 a4:=isAgg4
 z4:=sizeOf4
 v4:=zeroValue4
 t9:=underlying9
 a9:=isAgg9
 z9:=sizeOf9
 v9:=zeroValue9 }
def Tryz.shItoa_ren:Go.Shelf.Ren:=⟨fun | 171=>184 | 243=>205 | 246=>215 | 283=>224 | 284=>225 | 285=>226 | 286=>227 | 129=>237 | 317=>239 | 318=>240 | 319=>241 | 320=>242 | 337=>248 | 338=>249 | n=>n,fun | 3=>3 | 9=>9 | 2=>2 | 4=>4 | 171=>259 | 0=>0 | 53=>226 | 37=>53 | 5=>5 | 173=>261 | 212=>272 | 51=>134 | 20=>20 | 213=>273 | 46=>129 | 232=>45 | 233=>282 | n=>n,fun | 17=>4 | 18=>5 | 19=>6 | n=>n⟩
theorem Tryz.shItoa:Go.Proofs.LaysM.n171 Tryz.prog Tryz.shItoa_ren:={
 mixed:=by kernel_rfl
 f129:=func237.trans (by kernel_rfl)
 f171:=func184.trans (by kernel_rfl)
 f243:=func205.trans (by kernel_rfl)
 f246:=func215.trans (by kernel_rfl)
 f283:=func224.trans (by kernel_rfl)
 f284:=func225.trans (by kernel_rfl)
 f285:=func226.trans (by kernel_rfl)
 f286:=func227.trans (by kernel_rfl)
 f317:=func239.trans (by kernel_rfl)
 f318:=func240.trans (by kernel_rfl)
 f319:=func241.trans (by kernel_rfl)
 f320:=func242.trans (by kernel_rfl)
 f337:=func248.trans (by kernel_rfl)
 f338:=func249.trans (by kernel_rfl)
 t0:=underlying0
 a0:=isAgg0
 z0:=sizeOf0
 v0:=zeroValue0
 t2:=underlying2
 a2:=isAgg2
 z2:=sizeOf2
 v2:=zeroValue2
 t3:=underlying3
 a3:=isAgg3
 z3:=sizeOf3
 v3:=zeroValue3
 t4:=underlying4
 a4:=isAgg4
 z4:=sizeOf4
 v4:=zeroValue4
 t5:=underlying5
 a5:=isAgg5
 z5:=sizeOf5
 v5:=zeroValue5
 t9:=underlying9
 a9:=isAgg9
 z9:=sizeOf9
 v9:=zeroValue9
 t20:=underlying20
 a20:=isAgg20
 z20:=sizeOf20
 v20:=zeroValue20
 t37:=underlying53
 a37:=isAgg53
 z37:=sizeOf53
 v37:=zeroValue53
 t46:=underlying129
 a46:=isAgg129
 z46:=sizeOf129
 v46:=zeroValue129
 t51:=underlying134
 a51:=isAgg134
 z51:=sizeOf134
 v51:=zeroValue134
 t53:=underlying226
 a53:=isAgg226
 z53:=sizeOf226
 v53:=zeroValue226
 t171:=underlying259
 a171:=isAgg259
 z171:=sizeOf259
 v171:=zeroValue259
 t173:=underlying261
 a173:=isAgg261
 z173:=sizeOf261
 v173:=zeroValue261
 t212:=underlying272
 a212:=isAgg272
 z212:=sizeOf272
 v212:=zeroValue272
 t213:=underlying273
 a213:=isAgg273
 z213:=sizeOf273
 t232:=underlying45
 a232:=isAgg45
 z232:=sizeOf45
 v232:=zeroValue45
 t233:=underlying282
 a233:=isAgg282
 z233:=sizeOf282
 v233:=zeroValue282
 g17:=by kernel_rfl
 g18:=by kernel_rfl
 g19:=by kernel_rfl
 i0:=by kernel_rfl
 i2:=by kernel_rfl
 i3:=by kernel_rfl
 i4:=by kernel_rfl
 i5:=by kernel_rfl
 i9:=by kernel_rfl
 i20:=by kernel_rfl
 i37:=by kernel_rfl
 i46:=by kernel_rfl
 i51:=by kernel_rfl
 i53:=by kernel_rfl
 i171:=by kernel_rfl
 i173:=by kernel_rfl
 i212:=by kernel_rfl
 i232:=by kernel_rfl
 i233:=by kernel_rfl
 m17:=by kernel_rfl
 m18:=by kernel_rfl
 m19:=by kernel_rfl }
def Tryz.shDecode_ren:Go.Shelf.Ren:=⟨fun | 197=>198 | 260=>211 | n=>n,fun | 9=>9 | 21=>21 | 3=>3 | 4=>4 | 5=>5 | 105=>240 | 119=>253 | 0=>0 | 46=>129 | 139=>256 | 138=>255 | n=>n,fun | 3=>2 | 4=>3 | n=>n⟩
theorem Tryz.shDecode:Go.Proofs.Lays.n197 Tryz.prog Tryz.shDecode_ren:={
 mixed:=by kernel_rfl
 f197:=func198.trans (by kernel_rfl)
 f260:=func211.trans (by kernel_rfl)
 t0:=underlying0
 a0:=isAgg0
 z0:=sizeOf0
 v0:=zeroValue0
 t3:=underlying3
 a3:=isAgg3
 z3:=sizeOf3
 v3:=zeroValue3
 t4:=underlying4
 a4:=isAgg4
 z4:=sizeOf4
 v4:=zeroValue4
 t5:=underlying5
 a5:=isAgg5
 z5:=sizeOf5
 v5:=zeroValue5
 t9:=underlying9
 a9:=isAgg9
 z9:=sizeOf9
 v9:=zeroValue9
 t21:=underlying21
 a21:=isAgg21
 z21:=sizeOf21
 v21:=zeroValue21
 t46:=underlying129
 a46:=isAgg129
 z46:=sizeOf129
 v46:=zeroValue129
 t105:=underlying240
 a105:=isAgg240
 z105:=sizeOf240
 v105:=zeroValue240
 t119:=underlying253
 a119:=isAgg253
 z119:=sizeOf253
 t138:=underlying255
 a138:=isAgg255
 z138:=sizeOf255
 v138:=zeroValue255
 t139:=underlying256
 a139:=isAgg256
 z139:=sizeOf256
 v139:=zeroValue256
 g3:=by kernel_rfl
 g4:=by kernel_rfl }
def Tryz.shValid_ren:Go.Shelf.Ren:=⟨fun | 196=>214 | 259=>223 | n=>n,fun | 9=>9 | 4=>4 | 3=>3 | 5=>5 | 12=>12 | 119=>253 | 0=>0 | 46=>129 | 139=>256 | 138=>255 | 53=>226 | n=>n,fun | 3=>2 | 4=>3 | n=>n⟩
theorem Tryz.shValid:Go.Proofs.Lays.n196 Tryz.prog Tryz.shValid_ren:={
 mixed:=by kernel_rfl
 f196:=func214.trans (by kernel_rfl)
 f259:=func223.trans (by kernel_rfl)
 t0:=underlying0
 a0:=isAgg0
 z0:=sizeOf0
 v0:=zeroValue0
 t3:=underlying3
 a3:=isAgg3
 z3:=sizeOf3
 v3:=zeroValue3
 t4:=underlying4
 a4:=isAgg4
 z4:=sizeOf4
 v4:=zeroValue4
 t5:=underlying5
 a5:=isAgg5
 z5:=sizeOf5
 v5:=zeroValue5
 t9:=underlying9
 a9:=isAgg9
 z9:=sizeOf9
 v9:=zeroValue9
 t12:=underlying12
 a12:=isAgg12
 z12:=sizeOf12
 v12:=zeroValue12
 t46:=underlying129
 a46:=isAgg129
 z46:=sizeOf129
 v46:=zeroValue129
 t53:=underlying226
 a53:=isAgg226
 z53:=sizeOf226
 v53:=zeroValue226
 t119:=underlying253
 a119:=isAgg253
 z119:=sizeOf253
 t138:=underlying255
 a138:=isAgg255
 z138:=sizeOf255
 v138:=zeroValue255
 t139:=underlying256
 a139:=isAgg256
 z139:=sizeOf256
 v139:=zeroValue256
 g3:=by kernel_rfl
 g4:=by kernel_rfl }
def Tryz.shTrim_ren:Go.Shelf.Ren:=⟨fun | 160=>127 | 232=>163 | 231=>162 | 227=>164 | 234=>166 | 233=>165 | 236=>168 | 235=>167 | 228=>197 | 271=>200 | 151=>199 | 197=>198 | 120=>213 | 152=>212 | 260=>211 | 137=>129 | 119=>220 | 224=>221 | 225=>222 | 217=>169 | 266=>201 | n=>n,fun | 9=>9 | 4=>4 | 3=>3 | 5=>5 | 117=>213 | 116=>212 | 0=>0 | 124=>216 | 21=>21 | 105=>240 | 46=>129 | 119=>253 | 139=>256 | 138=>255 | n=>n,fun | 3=>2 | 4=>3 | n=>n⟩
theorem Tryz.shTrim:Go.Proofs.Lays.n160 Tryz.prog Tryz.shTrim_ren:={
 mixed:=by kernel_rfl
 f119:=func220.trans (by kernel_rfl)
 f120:=func213.trans (by kernel_rfl)
 f137:=func129.trans (by kernel_rfl)
 f151:=func199.trans (by kernel_rfl)
 f152:=func212.trans (by kernel_rfl)
 f160:=func127.trans (by kernel_rfl)
 f197:=func198.trans (by kernel_rfl)
 f217:=func169.trans (by kernel_rfl)
 f224:=func221.trans (by kernel_rfl)
 f225:=func222.trans (by kernel_rfl)
 f227:=func164.trans (by kernel_rfl)
 f228:=func197.trans (by kernel_rfl)
 f231:=func162.trans (by kernel_rfl)
 f232:=func163.trans (by kernel_rfl)
 f233:=func165.trans (by kernel_rfl)
 f234:=func166.trans (by kernel_rfl)
 f235:=func167.trans (by kernel_rfl)
 f236:=func168.trans (by kernel_rfl)
 f260:=func211.trans (by kernel_rfl)
 f266:=func201.trans (by kernel_rfl)
 f271:=func200.trans (by kernel_rfl)
 t0:=underlying0
 a0:=isAgg0
 z0:=sizeOf0
 v0:=zeroValue0
 t3:=underlying3
 a3:=isAgg3
 z3:=sizeOf3
 v3:=zeroValue3
 t4:=underlying4
 a4:=isAgg4
 z4:=sizeOf4
 v4:=zeroValue4
 t5:=underlying5
 a5:=isAgg5
 z5:=sizeOf5
 v5:=zeroValue5
 t9:=underlying9
 a9:=isAgg9
 z9:=sizeOf9
 v9:=zeroValue9
 t21:=underlying21
 a21:=isAgg21
 z21:=sizeOf21
 v21:=zeroValue21
 t46:=underlying129
 a46:=isAgg129
 z46:=sizeOf129
 v46:=zeroValue129
 t105:=underlying240
 a105:=isAgg240
 z105:=sizeOf240
 v105:=zeroValue240
 t116:=underlying212
 a116:=isAgg212
 z116:=sizeOf212
 t117:=underlying213
 a117:=isAgg213
 z117:=sizeOf213
 v117:=zeroValue213
 t119:=underlying253
 a119:=isAgg253
 z119:=sizeOf253
 t124:=underlying216
 a124:=isAgg216
 z124:=sizeOf216
 v124:=zeroValue216
 t138:=underlying255
 a138:=isAgg255
 z138:=sizeOf255
 v138:=zeroValue255
 t139:=underlying256
 a139:=isAgg256
 z139:=sizeOf256
 v139:=zeroValue256
 g3:=by kernel_rfl
 g4:=by kernel_rfl }
def Tryz.shIndexSig_ren:Go.Shelf.Ren:=⟨fun | 6=>98 | n=>n,fun | 22=>26 | 23=>40 | 25=>97 | 3=>3 | 0=>0 | 4=>4 | n=>n,fun | n=>n⟩
theorem Tryz.shIndexSig:Go.Proofs.SlLaysH0.n6 Tryz.prog Tryz.shIndexSig_ren:={
 mixed:=by kernel_rfl
 f6:=⟨Tryz.f98.name,by decide,func98.trans (by kernel_rfl)⟩
 t0:=underlying0
 a0:=isAgg0
 z0:=sizeOf0
 v0:=zeroValue0
 t3:=underlying3
 a3:=isAgg3
 z3:=sizeOf3
 v3:=zeroValue3
 t4:=underlying4
 a4:=isAgg4
 z4:=sizeOf4
 v4:=zeroValue4
 t22:=underlying26
 a22:=isAgg26
 z22:=sizeOf26
 v22:=zeroValue26
 t25:=underlying97
 a25:=isAgg97
 z25:=sizeOf97
 v25:=zeroValue97 }
def Tryz.shIndexRow_ren:Go.Shelf.Ren:=⟨fun | 6=>99 | n=>n,fun | 22=>32 | 23=>49 | 25=>151 | 3=>3 | 0=>0 | 4=>4 | n=>n,fun | n=>n⟩
theorem Tryz.shIndexRow:Go.Proofs.SlLaysH0.n6 Tryz.prog Tryz.shIndexRow_ren:={
 mixed:=by kernel_rfl
 f6:=⟨Tryz.f99.name,by decide,func99.trans (by kernel_rfl)⟩
 t0:=underlying0
 a0:=isAgg0
 z0:=sizeOf0
 v0:=zeroValue0
 t3:=underlying3
 a3:=isAgg3
 z3:=sizeOf3
 v3:=zeroValue3
 t4:=underlying4
 a4:=isAgg4
 z4:=sizeOf4
 v4:=zeroValue4
 t22:=underlying32
 a22:=isAgg32
 z22:=sizeOf32
 v22:=zeroValue32
 t25:=underlying151
 a25:=isAgg151
 z25:=sizeOf151
 v25:=zeroValue151 }
end Go.Proofs
namespace Go.Proofs.YtibnfbglanpoiaaGreatDoor
open Go.Proofs.Tryz
open Go.RowKit
open Go.Sort (grow flatK size_flatK get_flatK putRowK HoldsK)
theorem YE:∀ (l m:List UInt8),Op.bytesLess l m=decide (l < m)
 | [],[]=>by simp [Op.bytesLess]
 | _ :: _,[]=>by simp [Op.bytesLess]
 | [],_ :: _=>by simp [Op.bytesLess]
 | a :: x,b :: y=>by
  have ih:=YE x y
  unfold Op.bytesLess
  rw [ih,Bool.eq_iff_iff]
  simp only [Bool.or_eq_true,Bool.and_eq_true,decide_eq_true_eq,beq_iff_eq,List.cons_lt_cons_iff]
theorem zI.perm {α β:Type}{R:α→β→Prop}:∀ {xs xs':List α}{ys:List β},zI R xs ys→xs'.Perm xs→∃ ys',ys'.Perm ys∧zI R xs' ys':=by
 intro xs xs' ys h hp
 induction hp generalizing ys with
 | nil=>exact⟨ys,List.Perm.refl _,h⟩
 | cons x _ ih=>
  match ys,h with
  | [],h=>exact absurd h.1 (by simp)
  | y :: ys,h=>
   obtain⟨zs,h1,h2⟩:=ih (ys:=ys) ⟨by simpa using h.1,fun j a b ha hb=>h.2 (j + 1) a b (by simpa using ha) (by simpa using hb)⟩
   exact⟨y :: zs,h1.cons y,h2.cons (h.2 0 _ _ rfl rfl)⟩
 | swap x z l=>
  match ys,h with
  | [],h=>exact absurd h.1 (by simp)
  | [_],h=>exact absurd h.1 (by simp)
  | y1 :: y2 :: ys,h=>
   refine⟨y2 :: y1 :: ys,List.Perm.swap ..,?_⟩
   have h0:zI R l ys:=⟨by simpa using h.1,fun j a b ha hb=>h.2 (j + 2) a b (by simpa using ha) (by simpa using hb)⟩
   exact zI.cons (h.2 1 _ _ rfl rfl) (zI.cons (h.2 0 _ _ rfl rfl) h0)
 | trans _ _ ih1 ih2=>
  obtain⟨z1,p1,h1⟩:=ih2 h
  obtain⟨z2,p2,h2⟩:=ih1 h1
  exact⟨z2,p2.trans p1,h2⟩
theorem flat_set {size:Nat}(ls:List (List Value)) (i:Nat) (c:List Value) (h:∀ x,x ∈ ls→x.length=size) (hc:c.length=size) (j:Nat) :
  (ls.set i c).flatten[j]? = if i < ls.length∧i * size≤j∧j < i * size + size then c[j - i * size]? else ls.flatten[j]?:=by
 induction ls generalizing i j with
 | nil=>simp
 | cons x ls ih=>
  have hx:=h x (List.mem_cons_self ..)
  cases i with
  | zero=>
   simp only [List.set_cons_zero,List.flatten_cons,Nat.zero_mul,Nat.zero_le,true_and,Nat.zero_add,Nat.sub_zero,List.length_cons,Nat.zero_lt_succ]
   by_cases hj:j < size
   ·rw [if_pos hj,List.getElem?_append_left (by omega)]
   ·rw [if_neg hj,List.getElem?_append_right (by omega),List.getElem?_append_right (by omega),hc,hx]
  | succ i=>
   simp only [List.set_cons_succ,List.flatten_cons,List.length_cons]
   have e:(i + 1) * size=i * size + size:=by rw [Nat.add_mul,Nat.one_mul]
   by_cases hj:j < size
   ·rw [List.getElem?_append_left (by omega),List.getElem?_append_left (by omega),if_neg (by omega)]
   ·rw [List.getElem?_append_right (by omega),List.getElem?_append_right (by omega),ih i (fun y hy=>h y (List.mem_cons_of_mem _ hy)),hx,e]
    by_cases q:i < ls.length∧i * size≤j - size∧j - size < i * size + size
    ·rw [if_pos q,if_pos (by omega),show j - (i * size + size)=j - size - i * size by omega]
    ·rw [if_neg q,if_neg (by omega)]
theorem row_stored {w:World}{base e size n:Nat}{v:Value}{ls:List (List Value)}{i g:Nat}{c:List Value}(h:w.ownsRow base e size v n ls.flatten) (hls:∀ x,x ∈ ls→x.length=size) (hv:v.ownBlock=some g) (hn:ls.length=n) (hi:i < n) (hc:c.length=size) :
  (w.setCells g (i * size) c).ownsRow base e size v n (ls.set i c).flatten∧w.there g (i * size) size∧zb [g] w (w.setCells g (i * size) c):=by
 obtain⟨h1,h2⟩:=h
 rcases h2 with ⟨rfl,_⟩ | ⟨g',cap,cur,rfl,hb,hh,hcap,hm,hs,ht⟩
 ·simp [Value.ownBlock] at hv
 ·simp [Value.ownBlock] at hv
  subst hv
  have hfl:=vB ls hls
  have hsz:(i + 1) * size≤cap * size:=Nat.mul_le_mul_right size (by omega)
  rw [Nat.add_mul,Nat.one_mul] at hsz
  have hnc:n * size≤cap * size:=Nat.mul_le_mul_right size hcap
  have hin:(i + 1) * size≤n * size:=Nat.mul_le_mul_right size (by omega)
  rw [Nat.add_mul,Nat.one_mul] at hin
  obtain⟨cur',q1,q2,q3⟩:=xx g' c (i * size) w cur hh
  refine⟨⟨?_,.inr ⟨g',cap,cur',rfl,hb,q1,hcap,hm,by rw [q2];exact hs,?_⟩⟩,?_,z7 _ _ _ _⟩
  ·rw [vB (size:=size) _ (fun x hx=>by
    rcases List.mem_or_eq_of_mem_set hx with hx | rfl
    ·exact hls x hx
    ·exact hc),List.length_set,hn]
  ·apply List.ext_getElem?
   intro j
   rw [flat_set ls i c hls hc,List.getElem?_take]
   by_cases hj:j < n * size
   ·rw [if_pos hj,Array.getElem?_toList,q3 j (by omega),hc]
    by_cases q:i * size≤j∧j < i * size + size
    ·rw [if_pos q,if_pos ⟨by omega,q⟩]
    ·rw [if_neg q,if_neg (fun q'=>q q'.2),← ht,List.getElem?_take,if_pos hj,Array.getElem?_toList]
   ·rw [if_neg hj,if_neg (by omega),List.getElem?_eq_none (by rw [hfl,hn];omega)]
  ·intro j hj
   have hl:i * size + j < cur.size:=by omega
   have hcell:w.cell? ⟨g',i * size + j,none⟩=some cur[i * size + j]:=za hh (by simp [hl])
   exact⟨by rw [hcell];rfl,zh hh⟩
section
variable {α : Type} [Inhabited α]
theorem sort_world (enc:α→List Value) (k:Nat) {w:World}{g e:Nat}{cur:Array Value}(hh:w.heap[g]? = some (.cells cur e (0,0))) (m:Nat) (d:Array α) (os:Array Obj) (hs:d.size * k≤cur.size) :
  zb [g] w (sortWorldK enc k w g 0 m d os)∧∃ cur',(sortWorldK enc k w g 0 m d os).heap[g]? = some (.cells cur' e (0,0))∧cur'.size=cur.size∧∀ t,t < cur.size→cur'[t]? = if t < d.size * k then some (enc d[t / k]!)[t % k]! else cur[t]?:=by
 have hg:=lt_of_block hh
 have h0:∀ j,(sortWorldK enc k w g 0 m d os).heap[j]? = if j < w.heap.size then (w.heap.modify g (Sort.onCells (Sort.putCells id 0 (flatK enc k d))))[j]? else os[j - w.heap.size]?:=by
  intro j
  show ((w.heap.modify g (Sort.onCells (Sort.putCells id 0 (flatK enc k d)))) ++ os)[j]? = _
  rw [Array.getElem?_append,Array.size_modify]
 refine⟨⟨rfl,rfl,rfl,?_,?_⟩,Sort.putCells id 0 (flatK enc k d) cur,?_,by simp [Sort.putCells],?_⟩
 ·show w.heap.size≤((w.heap.modify g (Sort.onCells (Sort.putCells id 0 (flatK enc k d)))) ++ os).size
  rw [Array.size_append,Array.size_modify];omega
 ·intro j hj hx
  rw [h0,if_pos hj,Array.getElem?_modify,if_neg (by simp at hx;omega)]
 ·rw [h0,if_pos hg,Array.getElem?_modify,if_pos rfl,hh]
  rfl
 ·intro t ht
  simp only [Sort.putCells,Array.getElem?_mapIdx,Nat.zero_le,true_and,Nat.zero_add,Nat.sub_zero,size_flatK,id]
  rw [Array.getElem?_eq_getElem ht]
  by_cases q:t < d.size * k
  ·rw [if_pos q,Option.map_some,if_pos q,get_flatK enc k d t q]
  ·rw [if_neg q,Option.map_some,if_neg q]
end
def yc (l:List UInt8):ByteArray:=⟨l.toArray⟩
theorem xR (l:List UInt8):(yc l).data.toList=l:=by simp [yc]
def isDig (c:UInt8):Bool:=decide (48≤c.toNat) && decide (c.toNat≤57)
def hexV (c:UInt8):Option Nat:=
 if 48≤c.toNat∧c.toNat≤57 then some (c.toNat - 48) else if 97≤c.toNat∧c.toNat≤102 then some (c.toNat - 87) else if 65≤c.toNat∧c.toNat≤70 then some (c.toNat - 55) else none
def utfB (r:Int):List UInt8:=(Utf8.encode r).data.toList
def xG (r:Nat):List UInt8:=utfB r
def digSum (s:List UInt8):Nat:=s.foldl (fun a c=>10 * a + (c.toNat - 48)) 0
def leaf {α:Type}(k n:Int) (s:ByteArray):VS α:=⟨k,n,s,[],[]⟩
section
variable {α : Type} (sub : List UInt8 → Nat → Sum Int (α × List UInt8 × Nat))
end
open Go.Lib (decodeN decodeL)
def gb (l:List UInt8) (i:Nat):Nat:=(l.getD i 0).toNat
theorem get_getD (l:List UInt8) (i:Nat):((⟨l.toArray⟩:ByteArray).get! i)=l.getD i 0:=by
 show l.toArray[i]! = _
 rw [List.getD_eq_getElem?_getD,getElem!_def]
 simp only [List.getElem?_toArray]
 cases l[i]? <;> rfl
theorem qy (l:List UInt8):decodeL l=decodeN l.length (gb l 0) (gb l 1) (gb l 2) (gb l 3):=by
 unfold decodeL
 rw [Lib.decode_at]
 have hs:(⟨l.toArray⟩:ByteArray).size=l.length:=by simp [ByteArray.size]
 simp only [hs,Nat.sub_zero,Nat.zero_add,get_getD,gb]
theorem gb_app (l x:List UInt8) (i:Nat) (h:i < l.length):gb (l ++ x) i=gb l i:=by
 unfold gb
 rw [List.getD_eq_getElem?_getD,List.getD_eq_getElem?_getD,List.getElem?_append_left h]
theorem bA (l:List UInt8) (i:Nat):gb l i < 256:=(l.getD i 0).toNat_lt
theorem KP {n b0 b1 b2 b3:Nat}(hn:1≤n) (h1:b1 < 256) (h2:b2 < 256) (h3:b3 < 256) (h0:b0 < 256) (h:¬((decodeN n b0 b1 b2 b3).1=65533∧(decodeN n b0 b1 b2 b3).2=1)) :
  (b0 < 128∧decodeN n b0 b1 b2 b3=(b0,1)) ∨
  (128≤b0∧b0 / 32=6∧2≤n∧b1 / 64=2∧128≤b0 % 32 * 64 + b1 % 64∧decodeN n b0 b1 b2 b3=(b0 % 32 * 64 + b1 % 64,2)) ∨
  (128≤b0∧b0 / 16=14∧3≤n∧b1 / 64=2∧b2 / 64=2∧2048≤b0 % 16 * 4096 + b1 % 64 * 64 + b2 % 64∧(b0 % 16 * 4096 + b1 % 64 * 64 + b2 % 64 < 55296∨57344≤b0 % 16 * 4096 + b1 % 64 * 64 + b2 % 64)∧decodeN n b0 b1 b2 b3=(b0 % 16 * 4096 + b1 % 64 * 64 + b2 % 64,3)) ∨
  (128≤b0∧b0 / 8=30∧4≤n∧b1 / 64=2∧b2 / 64=2∧b3 / 64=2∧65536≤b0 % 8 * 262144 + b1 % 64 * 4096 + b2 % 64 * 64 + b3 % 64∧b0 % 8 * 262144 + b1 % 64 * 4096 + b2 % 64 * 64 + b3 % 64≤1114111∧decodeN n b0 b1 b2 b3=(b0 % 8 * 262144 + b1 % 64 * 4096 + b2 % 64 * 64 + b3 % 64,4)):=by
 unfold decodeN at h ⊢
 by_cases c0:b0 < 128
 ·rw [if_pos c0];exact .inl ⟨c0,rfl⟩
 rw [if_neg c0] at h ⊢
 by_cases c1:b0 / 32=6∧(1 < n∧b1 / 64=2)
 ·rw [if_pos c1] at h ⊢
  by_cases d:b0 % 32 * 64 + b1 % 64≥128
  ·rw [if_pos d];exact .inr (.inl ⟨by omega,c1.1,by omega,c1.2.2,d,rfl⟩)
  ·rw [if_neg d] at h;exact absurd ⟨rfl,rfl⟩ h
 rw [if_neg c1] at h ⊢
 by_cases c2:b0 / 16=14∧(1 < n∧b1 / 64=2)∧(2 < n∧b2 / 64=2)
 ·rw [if_pos c2] at h ⊢
  split at h
  ·rename_i d;rw [if_pos d];exact .inr (.inr (.inl ⟨by omega,c2.1,by omega,c2.2.1.2,c2.2.2.2,d.1,by omega,rfl⟩))
  ·exact absurd ⟨rfl,rfl⟩ h
 rw [if_neg c2] at h ⊢
 by_cases c3:b0 / 8=30∧(1 < n∧b1 / 64=2)∧(2 < n∧b2 / 64=2)∧(3 < n∧b3 / 64=2)
 ·rw [if_pos c3] at h ⊢
  split at h
  ·rename_i d;rw [if_pos d];exact .inr (.inr (.inr ⟨by omega,c3.1,by omega,c3.2.1.2,c3.2.2.1.2,c3.2.2.2.2,d.1,by omega,rfl⟩))
  ·exact absurd ⟨rfl,rfl⟩ h
 rw [if_neg c3] at h
 exact absurd ⟨rfl,rfl⟩ h
theorem decodeN_more {n m b0 b1 b2 b3 c1 c2 c3:Nat}(hn:1≤n) (hm:(decodeN n b0 b1 b2 b3).2≤m) (h1:b1 < 256) (h2:b2 < 256) (h3:b3 < 256) (h0:b0 < 256) (h:¬((decodeN n b0 b1 b2 b3).1=65533∧(decodeN n b0 b1 b2 b3).2=1))
  (e1:1 < (decodeN n b0 b1 b2 b3).2→c1=b1) (e2:2 < (decodeN n b0 b1 b2 b3).2→c2=b2) (e3:3 < (decodeN n b0 b1 b2 b3).2→c3=b3):decodeN m b0 c1 c2 c3=decodeN n b0 b1 b2 b3:=by
 rcases KP hn h1 h2 h3 h0 h with ⟨q0,e⟩ | ⟨q0,q1,q2,q3,q4,e⟩ | ⟨q0,q1,q2,q3,q4,q5,q6,e⟩ | ⟨q0,q1,q2,q3,q4,q5,q6,q7,e⟩
 all_goals
  rw [e] at hm e1 e2 e3
  simp only at hm e1 e2 e3
 ·rw [e];unfold decodeN;rw [if_pos q0]
 ·rw [e,e1 (by omega)]
  unfold decodeN
  rw [if_neg (by omega),if_pos ⟨q1,by omega,q3⟩,if_pos q4]
 ·rw [e,e1 (by omega),e2 (by omega)]
  unfold decodeN
  rw [if_neg (by omega),if_neg (by omega),if_pos ⟨q1,⟨by omega,q3⟩,by omega,q4⟩,if_pos ⟨q5,by omega⟩]
 ·rw [e,e1 (by omega),e2 (by omega),e3 (by omega)]
  unfold decodeN
  rw [if_neg (by omega),if_neg (by omega),if_neg (by omega),if_pos ⟨q1,⟨by omega,q3⟩,⟨by omega,q4⟩,by omega,q5⟩,if_pos ⟨q6,by omega⟩]
theorem take_two {l:List UInt8}(h:2≤l.length):l.take 2=[l.getD 0 0,l.getD 1 0]:=by
 match l,h with
 | a :: b :: t,_=>rfl
theorem QW {l:List UInt8}(h:3≤l.length):l.take 3=[l.getD 0 0,l.getD 1 0,l.getD 2 0]:=by
 match l,h with
 | a :: b :: c :: t,_=>rfl
theorem zaq {l:List UInt8}(h:4≤l.length):l.take 4=[l.getD 0 0,l.getD 1 0,l.getD 2 0,l.getD 3 0]:=by
 match l,h with
 | a :: b :: c :: d :: t,_=>rfl
theorem enc_aux (c:Nat):(if c < 128 then (⟨#[UInt8.ofNat c]⟩:ByteArray) else if c < 2048 then ⟨#[UInt8.ofNat (192 + c / 64),UInt8.ofNat (128 + c % 64)]⟩
  else if c < 65536 then ⟨#[UInt8.ofNat (224 + c / 4096),UInt8.ofNat (128 + c / 64 % 64),UInt8.ofNat (128 + c % 64)]⟩
  else ⟨#[UInt8.ofNat (240 + c / 262144),UInt8.ofNat (128 + c / 4096 % 64),UInt8.ofNat (128 + c / 64 % 64),UInt8.ofNat (128 + c % 64)]⟩).data.toList =
  if c < 128 then [UInt8.ofNat c] else if c < 2048 then [UInt8.ofNat (192 + c / 64),UInt8.ofNat (128 + c % 64)]
  else if c < 65536 then [UInt8.ofNat (224 + c / 4096),UInt8.ofNat (128 + c / 64 % 64),UInt8.ofNat (128 + c % 64)]
  else [UInt8.ofNat (240 + c / 262144),UInt8.ofNat (128 + c / 4096 % 64),UInt8.ofNat (128 + c / 64 % 64),UInt8.ofNat (128 + c % 64)]:=by
 by_cases c1:c < 128
 ·rw [if_pos c1,if_pos c1]
 rw [if_neg c1,if_neg c1]
 by_cases c2:c < 2048
 ·rw [if_pos c2,if_pos c2]
 rw [if_neg c2,if_neg c2]
 by_cases c3:c < 65536
 ·rw [if_pos c3,if_pos c3]
 rw [if_neg c3,if_neg c3]
theorem valid_of (c:Nat) (h:c < 55296∨(57344≤c∧c≤1114111)):Utf8.valid (c:Int)=true:=by
 unfold Utf8.valid
 rw [Bool.or_eq_true,Bool.and_eq_true,Bool.and_eq_true]
 simp only [decide_eq_true_eq]
 omega
theorem enc_of (r:Int) (h:Utf8.valid r=true):utfB r=if r.toNat < 128 then [UInt8.ofNat r.toNat] else if r.toNat < 2048 then [UInt8.ofNat (192 + r.toNat / 64),UInt8.ofNat (128 + r.toNat % 64)]
  else if r.toNat < 65536 then [UInt8.ofNat (224 + r.toNat / 4096),UInt8.ofNat (128 + r.toNat / 64 % 64),UInt8.ofNat (128 + r.toNat % 64)]
  else [UInt8.ofNat (240 + r.toNat / 262144),UInt8.ofNat (128 + r.toNat / 4096 % 64),UInt8.ofNat (128 + r.toNat / 64 % 64),UInt8.ofNat (128 + r.toNat % 64)]:=by
 unfold utfB Utf8.encode
 rw [if_pos h]
 exact enc_aux _
theorem kH (c:Nat) (h:c < 55296∨(57344≤c∧c≤1114111)):xG c =
  if c < 128 then [UInt8.ofNat c] else if c < 2048 then [UInt8.ofNat (192 + c / 64),UInt8.ofNat (128 + c % 64)]
  else if c < 65536 then [UInt8.ofNat (224 + c / 4096),UInt8.ofNat (128 + c / 64 % 64),UInt8.ofNat (128 + c % 64)]
  else [UInt8.ofNat (240 + c / 262144),UInt8.ofNat (128 + c / 4096 % 64),UInt8.ofNat (128 + c / 64 % 64),UInt8.ofNat (128 + c % 64)]:=by
 have e:=enc_of c (valid_of c h)
 rw [Int.toNat_natCast] at e
 exact e
structure Decoded (l:List UInt8) (c n:Nat):Prop where
 eq:decodeL l=(c,n)
 le:n≤l.length
 pos:1≤n
 one:n=1→gb l 0 < 128∧c=gb l 0
 high:2≤n→∀ b,b ∈ l.take n→128≤b.toNat
 rune:xG c=l.take n
 valid:c < 55296∨(57344≤c∧c≤1114111)
 more:∀ x,decodeL (l.take n ++ x)=(c,n)
theorem decoded {l:List UInt8}(h0:l≠[]) (h:¬((decodeL l).1=65533∧(decodeL l).2=1)):Decoded l (decodeL l).1 (decodeL l).2:=by
 have hn:1≤l.length:=by cases l with | nil=>exact absurd rfl h0 | cons a t=>simp
 have hmore:1≤(decodeL l).2→(decodeL l).2≤l.length→∀ x,decodeL (l.take (decodeL l).2 ++ x)=decodeL l:=by
  intro g1 g2 x
  have hl:(l.take (decodeL l).2).length=(decodeL l).2:=by rw [List.length_take];omega
  have hb:∀ i,i < (decodeL l).2→gb (l.take (decodeL l).2 ++ x) i=gb l i:=fun i hi=>by
   rw [gb_app _ x i (by omega)]
   unfold gb
   rw [List.getD_eq_getElem?_getD,List.getD_eq_getElem?_getD,List.getElem?_take_of_lt hi]
  revert hl hb
  generalize e:l.take (decodeL l).2 ++ x=y
  intro hl hb
  have hy:(decodeL l).2≤y.length:=by rw [← e,List.length_append];omega
  rw [qy y,hb 0 (by omega)]
  rw [qy l] at h hb hy ⊢
  exact decodeN_more hn hy (bA _ _) (bA _ _) (bA _ _) (bA _ _) h (fun q=>hb 1 q) (fun q=>hb 2 q) (fun q=>hb 3 q)
 have b0:l.getD 0 0=UInt8.ofNat (gb l 0):=(UInt8.ofNat_toNat).symm
 have b1:l.getD 1 0=UInt8.ofNat (gb l 1):=(UInt8.ofNat_toNat).symm
 have b2:l.getD 2 0=UInt8.ofNat (gb l 2):=(UInt8.ofNat_toNat).symm
 have b3:l.getD 3 0=UInt8.ofNat (gb l 3):=(UInt8.ofNat_toNat).symm
 have t0:(l.getD 0 0).toNat=gb l 0:=rfl
 have t1:(l.getD 1 0).toNat=gb l 1:=rfl
 have t2:(l.getD 2 0).toNat=gb l 2:=rfl
 have t3:(l.getD 3 0).toNat=gb l 3:=rfl
 have l0:=bA l 0
 have l1:=bA l 1
 have l2:=bA l 2
 have l3:=bA l 3
 have h':=h
 rw [qy] at h'
 rcases KP hn l1 l2 l3 l0 h' with ⟨q0,e⟩ | ⟨q0,q1,q2,q3,q4,e⟩ | ⟨q0,q1,q2,q3,q4,q5,q6,e⟩ | ⟨q0,q1,q2,q3,q4,q5,q6,q7,e⟩
 all_goals
  rw [← qy] at e
  rw [e] at hmore ⊢
  simp only at hmore ⊢
 ·refine⟨e,hn,Nat.le_refl _,fun _=>⟨q0,rfl⟩,fun h=>by omega,?_,by omega,hmore (by omega) (by omega)⟩
  rw [kH _ (by omega),if_pos q0]
  cases l with
  | nil=>exact absurd rfl h0
  | cons a t=>simp [gb]
 ·refine⟨e,q2,by omega,fun h=>by omega,fun _ b hb=>?_,?_,by omega,hmore (by omega) (by omega)⟩
  ·rw [take_two q2] at hb
   simp only [List.mem_cons,List.not_mem_nil,or_false] at hb
   rcases hb with rfl | rfl
   ·rw [t0];omega
   ·rw [t1];omega
  ·rw [kH _ (by omega),if_neg (by omega),if_pos (by omega),take_two q2,b0,b1]
   congr 2 <;> congr 1 <;> omega
 ·refine⟨e,q2,by omega,fun h=>by omega,fun _ b hb=>?_,?_,by omega,hmore (by omega) (by omega)⟩
  ·rw [QW q2] at hb
   simp only [List.mem_cons,List.not_mem_nil,or_false] at hb
   rcases hb with rfl | rfl | rfl
   ·rw [t0];omega
   ·rw [t1];omega
   ·rw [t2];omega
  ·rw [kH _ (by omega),if_neg (by omega),if_neg (by omega),if_pos (by omega),QW q2,b0,b1,b2]
   congr 1
   ·congr 1;omega
   ·congr 1
    ·congr 1;omega
    ·congr 1;congr 1;omega
 ·refine⟨e,q2,by omega,fun h=>by omega,fun _ b hb=>?_,?_,by omega,hmore (by omega) (by omega)⟩
  ·rw [zaq q2] at hb
   simp only [List.mem_cons,List.not_mem_nil,or_false] at hb
   rcases hb with rfl | rfl | rfl | rfl
   ·rw [t0];omega
   ·rw [t1];omega
   ·rw [t2];omega
   ·rw [t3];omega
  ·rw [kH _ (by omega),if_neg (by omega),if_neg (by omega),if_neg (by omega),zaq q2,b0,b1,b2,b3]
   congr 1
   ·congr 1;omega
   ·congr 1
    ·congr 1;omega
    ·congr 1
     ·congr 1;omega
     ·congr 1;congr 1;omega
open Go.Lib (decodeL decDigits itoa)
theorem isDig_of (d:Nat) (h:d < 10):isDig (UInt8.ofNat (48 + d))=true∧(UInt8.ofNat (48 + d)).toNat=48 + d:=by
 have e:(UInt8.ofNat (48 + d)).toNat=48 + d:=by rw [UInt8.toNat_ofNat'];omega
 refine⟨?_,e⟩
 unfold isDig
 rw [e,Bool.and_eq_true]
 exact⟨decide_eq_true (by omega),decide_eq_true (by omega)⟩
theorem digSum_snoc (l:List UInt8) (c:UInt8):digSum (l ++ [c])=10 * digSum l + (c.toNat - 48):=by
 unfold digSum
 rw [List.foldl_append]
 rfl
theorem dec_facts (u:Nat):digSum (decDigits u)=u∧(∀ c,c ∈ decDigits u→isDig c=true)∧∃ d t,decDigits u=d :: t∧(d=48→t=[]∧u=0):=by
 induction u using Nat.strongRecOn with
 | _ u ih=>
  rw [decDigits]
  split
  ·rename_i h
   obtain⟨h1,h2⟩:=isDig_of u h
   refine⟨?_,fun c hc=>?_,_,_,rfl,fun e=>⟨rfl,?_⟩⟩
   ·show 10 * 0 + ((UInt8.ofNat (48 + u)).toNat - 48)=u
    omega
   ·rw [List.mem_singleton.1 hc];exact h1
   ·rw [e] at h2
    have:(48:UInt8).toNat=48:=rfl
    omega
  ·rename_i h
   obtain⟨i1,i2,d,t,i3,i4⟩:=ih (u / 10) (by omega)
   obtain⟨h1,h2⟩:=isDig_of (u % 10) (by omega)
   refine⟨?_,fun c hc=>?_,d,t ++ [UInt8.ofNat (48 + u % 10)],by rw [i3];rfl,fun e=>?_⟩
   ·rw [digSum_snoc,i1,h2];omega
   ·rcases List.mem_append.1 hc with hc | hc
    ·exact i2 c hc
    ·rw [List.mem_singleton.1 hc];exact h1
   ·have:=(i4 e).2
    omega
theorem itoa_head (n:Int):∃ d t,itoa n=d :: t∧(d=45∨isDig d=true):=by
 unfold itoa
 split
 ·exact⟨_,_,rfl,.inl rfl⟩
 ·obtain⟨_,h2,d,t,h3,_⟩:=dec_facts n.toNat
  exact⟨d,t,h3,.inr (h2 d (by rw [h3];exact List.mem_cons_self ..))⟩
end Go.Proofs.YtibnfbglanpoiaaGreatDoor

/- Parts of one proof, merged: XShS XKM XKN XKO XKP XKE XSl XSn XKH XSp XPA. -/
import Derived.Shelf.SlSortCmp.WholeK
import Derived.Ground.SlsfProg
import Derived.Test.YtjccecajigmfkaaGreatDoorSgG
import Derived.Test.YtjccecajigmfkaaGreatDoorSgH
import Derived.Laws.Cover1
import Derived.Shelf.SlSortCmp.NoneTotal
import Derived.Deep.MidRow
import Derived.Lib.SmallJoins
set_option linter.all false
set_option maxHeartbeats 12800000
set_option maxRecDepth 10000
namespace Go.Proofs
open Go.Shelf
def Tryz.shSort_ren:Go.Shelf.Ren:=⟨fun | 6=>120 | 15=>169 | 14=>168 | 28=>212 | 29=>213 | 20=>204 | 21=>205 | 22=>206 | 23=>207 | 24=>208 | 25=>209 | 26=>210 | 27=>211 | 46=>244 | 47=>245 | 48=>246 | 49=>247 | 50=>248 | 57=>259 | n=>n,fun | 22=>23 | 24=>41 | 25=>171 | 3=>3 | 39=>145 | 0=>0 | 53=>220 | 55=>250 | 4=>4 | 46=>242 | 45=>241 | 50=>246 | 5=>5 | 9=>9 | 66=>270 | 70=>274 | 76=>286 | 77=>209 | n=>n,fun | n=>n⟩
theorem Tryz.shSort:Go.Proofs.SlLaysF0.n6 prog Tryz.shSort_ren:={
 mixed:=Wr
 f6:=⟨Tryz.f120.name,Wo,func120.trans Wr⟩
 f14:=⟨Tryz.f168.name,Wo,func168.trans Wr⟩
 f15:=func169.trans Wr
 f20:=⟨Tryz.f204.name,Wo,func204.trans Wr⟩
 f21:=⟨Tryz.f205.name,Wo,func205.trans Wr⟩
 f22:=⟨Tryz.f206.name,Wo,func206.trans Wr⟩
 f23:=⟨Tryz.f207.name,Wo,func207.trans Wr⟩
 f24:=⟨Tryz.f208.name,Wo,func208.trans Wr⟩
 f25:=⟨Tryz.f209.name,Wo,func209.trans Wr⟩
 f26:=⟨Tryz.f210.name,Wo,func210.trans Wr⟩
 f27:=⟨Tryz.f211.name,Wo,func211.trans Wr⟩
 f28:=func212.trans Wr
 f29:=func213.trans Wr
 f46:=⟨Tryz.f244.name,Wo,func244.trans Wr⟩
 f47:=func245.trans Wr
 f48:=func246.trans Wr
 f49:=⟨Tryz.f247.name,Wo,func247.trans Wr⟩
 f50:=⟨Tryz.f248.name,Wo,func248.trans Wr⟩
 f57:=⟨Tryz.f259.name,Wo,func259.trans Wr⟩
 t0:=underlying0
 a0:=isAgg0
 z0:=sizeOf0
 v0:=zeroValue0
 t3:=underlying3
 a3:=isAgg3
 z3:=sizeOf3
 v3:=zeroValue3
 t4:=underlying4
 a4:=isAgg4
 z4:=sizeOf4
 v4:=zeroValue4
 t5:=underlying5
 a5:=isAgg5
 z5:=sizeOf5
 v5:=zeroValue5
 t9:=underlying9
 a9:=isAgg9
 z9:=sizeOf9
 v9:=zeroValue9
 t22:=underlying23
 a22:=isAgg23
 z22:=sizeOf23
 v22:=zeroValue23
 t25:=underlying171
 a25:=isAgg171
 z25:=sizeOf171
 v25:=zeroValue171
 t39:=underlying145
 a39:=isAgg145
 z39:=sizeOf145
 v39:=zeroValue145
 t45:=underlying241
 a45:=isAgg241
 z45:=sizeOf241
 v45:=zeroValue241
 t46:=underlying242
 a46:=isAgg242
 z46:=sizeOf242
 v46:=zeroValue242
 t50:=underlying246
 a50:=isAgg246
 z50:=sizeOf246
 v50:=zeroValue246
 t53:=underlying220
 a53:=isAgg220
 z53:=sizeOf220
 v53:=zeroValue220
 t55:=underlying250
 a55:=isAgg250
 z55:=sizeOf250
 v55:=zeroValue250
 t66:=underlying270
 a66:=isAgg270
 z66:=sizeOf270
 v66:=zeroValue270
 t70:=underlying274
 a70:=isAgg274
 z70:=sizeOf274
 v70:=zeroValue274
 t76:=underlying286
 a76:=isAgg286
 z76:=sizeOf286
 v76:=zeroValue286
 t77:=underlying209
 a77:=isAgg209
 z77:=sizeOf209
 v77:=zeroValue209 }
end Go.Proofs
namespace Go.Proofs.YtjccecajigmfkaaGreatDoor
open Go.Proofs.Tryz
open Go.RowKit
open Go.Sort (grow flatK size_flatK get_flatK putRowK HoldsK)
variable {T:Nat}{W:World}{a:Option Addr}{args:Array Value}{b base bytes e:Nat}{f:FuncId}{j k:Nat}{l:List UInt8}{m:Nat}{ms:List (ByteArray×List Value)}{n:Nat}{r:Ending}{s:ByteArray}{seen:List ByteArray}{size t:Nat}{v:Value}{xs:List Value}{z:Value}{β:Type}
theorem Kt:∀ (l m:List UInt8),Op.bytesLess l m=decide (l<m)
 | [],[]=>by simp [Op.bytesLess]
 | _::_,[]=>by simp [Op.bytesLess]
 | [],_::_=>by simp [Op.bytesLess]
 | a::x,b::y=>by
  have ih:=Kt x y
  unfold Op.bytesLess
  rw [ih,Bool.eq_iff_iff]
  simp only [Bool.or_eq_true,Bool.and_eq_true,decide_eq_true_eq,beq_iff_eq,List.cons_lt_cons_iff]
theorem zM.perm {α:Type}{R:α→β→Prop}:∀ {xs xs':List α}{ys:List β},zM R xs ys→xs'.Perm xs→∃ ys',ys'.Perm ys∧zM R xs' ys':=by
 intro xs xs' ys h hp
 induction hp generalizing ys with
 | nil=>exact⟨ys,List.Perm.refl _,h⟩
 | cons x _ ih=>
  match ys,h with
  | [],h=>exact absurd h.1 Wz
  | y::ys,h=>
   obtain⟨zs,f,h2⟩:=ih (ys:=ys) ⟨by simpa using h.1,fun j a b e d=>h.2 (j+1) a b (by simpa using e) (by simpa using d)⟩
   exact⟨y::zs,f.cons y,h2.cons (h.2 0 _ _ rfl rfl)⟩
 | swap x z l=>
  match ys,h with
  | [],h=>exact absurd h.1 Wz
  | [_],h=>exact absurd h.1 Wz
  | y1::y2::ys,h=>
   refine⟨y2::y1::ys,List.Perm.swap ..,?_⟩
   have m:zM R l ys:=⟨by simpa using h.1,fun j a b e d=>h.2 (j+2) a b (by simpa using e) (by simpa using d)⟩
   exact zM.cons (h.2 1 _ _ rfl rfl) (zM.cons (h.2 0 _ _ rfl rfl) m)
 | trans _ _ ih1 ih2=>
  obtain⟨n,i,f⟩:=ih2 h
  obtain⟨k,p2,h2⟩:=ih1 f
  exact⟨k,p2.trans i,h2⟩
theorem flat_set (a:List (List Value))(i:Nat)(c:List Value)(h:∀ x,x∈a→x.length=size)(hc:c.length=size)(j:Nat) : (a.set i c).flatten[j]? = if i<a.length∧i*size≤j∧j<i*size+size then c[j-i*size]? else a.flatten[j]?:=by
 induction a generalizing i j with
 | nil=>simp
 | cons x a ih=>
  have d:=h x (List.mem_cons_self ..)
  cases i with
  | zero=>
   simp only [List.set_cons_zero,List.flatten_cons,Nat.zero_mul,Nat.zero_le,true_and,Nat.zero_add,Nat.sub_zero,List.length_cons,Nat.zero_lt_succ]
   by_cases b:j<size
   ·rw [if_pos b,List.getElem?_append_left Ws]
   ·rw [if_neg b,List.getElem?_append_right Ws,List.getElem?_append_right Ws,hc,d]
  | succ i=>
   simp only [List.set_cons_succ,List.flatten_cons,List.length_cons]
   have e:(i+1)*size=i*size+size:=by rw [Nat.add_mul,Nat.one_mul]
   by_cases b:j<size
   ·rw [List.getElem?_append_left Ws,List.getElem?_append_left Ws,if_neg Ws]
   ·rw [List.getElem?_append_right Ws,List.getElem?_append_right Ws,ih i (fun y f=>h y (List.mem_cons_of_mem _ f)),d,e]
    by_cases q:i<a.length∧i*size≤j-size∧j-size<i*size+size
    ·rw [if_pos q,if_pos Ws,show j-(i*size+size)=j-size-i*size by omega]
    ·rw [if_neg q,if_neg Ws]
theorem xt {w:World}{k:List (List Value)}{i g:Nat}{c:List Value}(h:w.ownsRow base e size v n k.flatten)(f:∀ x,x∈k→x.length=size)(hv:v.ownBlock=some g)(z:k.length=n)(J:i<n)(hc:c.length=size) : (w.setCells g (i*size) c).ownsRow base e size v n (k.set i c).flatten∧w.there g (i*size) size∧zb [g] w (w.setCells g (i*size) c):=by
 obtain⟨K,h2⟩:=h
 rcases h2 with ⟨rfl,_⟩ | ⟨y,cap,b,rfl,F,r,a,hm,A,I⟩
 ·simp [Value.ownBlock] at hv
 ·simp [Value.ownBlock] at hv
  subst hv
  have u:=bX k f
  have s:(i+1)*size≤cap*size:=Nat.mul_le_mul_right size Ws
  rw [Nat.add_mul,Nat.one_mul] at s
  have D:n*size≤cap*size:=Nat.mul_le_mul_right size a
  have t:(i+1)*size≤n*size:=Nat.mul_le_mul_right size Ws
  rw [Nat.add_mul,Nat.one_mul] at t
  obtain⟨l,C,E,G⟩:=qC y c (i*size) w b r
  refine⟨⟨?_,.inr ⟨y,cap,l,rfl,F,C,a,hm,by rw [E];exact A,?_⟩⟩,?_,yN _ _ _ _⟩
  ·rw [bX (size:=size) _ (fun x p=>by
    rcases List.mem_or_eq_of_mem_set p with p | rfl
    ·exact f x p
    ·exact hc),List.length_set,z]
  ·apply List.ext_getElem?
   intro j
   rw [flat_set k i c f hc,List.getElem?_take]
   by_cases m:j<n*size
   ·rw [if_pos m,Array.getElem?_toList,G j Ws,hc]
    by_cases q:i*size≤j∧j<i*size+size
    ·rw [if_pos q,if_pos ⟨Ws,q⟩]
    ·rw [if_neg q,if_neg (fun B=>q B.2),← I,List.getElem?_take,if_pos m,Array.getElem?_toList]
   ·rw [if_neg m,if_neg Ws,List.getElem?_eq_none (by rw [u,z];omega)]
  ·intro j m
   have H:i*size+j<b.size:=Ws
   have d:w.cell? ⟨y,i*size+j,none⟩=some b[i*size+j]:=za r (by simp [H])
   exact⟨by rw [d];rfl,zh r⟩
section
variable {α : Type} [Inhabited α]
theorem sort_world (enc:α→List Value)(k:Nat){w:World}{g e:Nat}{a:Array Value}(b:w.heap[g]? = some (.cells a e (0,0)))(m:Nat)(d:Array α)(os:Array Obj)(p:d.size*k≤a.size) : zb [g] w (sortWorldK enc k w g 0 m d os)∧∃ cur',(sortWorldK enc k w g 0 m d os).heap[g]? = some (.cells cur' e (0,0))∧cur'.size=a.size∧∀ t,t<a.size→cur'[t]? = if t<d.size*k then some (enc d[t/k]!)[t%k]! else a[t]?:=by
 have l:=lt_of_block b
 have f:∀ j,(sortWorldK enc k w g 0 m d os).heap[j]? = if j<w.heap.size then (w.heap.modify g (Sort.onCells (Sort.putCells id 0 (flatK enc k d))))[j]? else os[j-w.heap.size]?:=by
  intro j
  show ((w.heap.modify g (Sort.onCells (Sort.putCells id 0 (flatK enc k d))))++os)[j]? = _
  rw [Array.getElem?_append,Array.size_modify]
 refine⟨⟨rfl,rfl,rfl,?_,?_⟩,Sort.putCells id 0 (flatK enc k d) a,?_,by simp [Sort.putCells],?_⟩
 ·show w.heap.size≤((w.heap.modify g (Sort.onCells (Sort.putCells id 0 (flatK enc k d))))++os).size
  rw [Array.size_append,Array.size_modify];omega
 ·intro j n h
  rw [f,if_pos n,Array.getElem?_modify,if_neg (by simp at h;omega)]
 ·rw [f,if_pos l,Array.getElem?_modify,if_pos rfl,b]
  rfl
 ·intro t i
  simp only [Sort.putCells,Array.getElem?_mapIdx,Nat.zero_le,true_and,Nat.zero_add,Nat.sub_zero,size_flatK,id]
  rw [Array.getElem?_eq_getElem i]
  by_cases q:t<d.size*k
  ·rw [if_pos q,Option.map_some,if_pos q,get_flatK enc k d t q]
  ·rw [if_neg q,Option.map_some,if_neg q]
end
def cmpZ (a b:ByteArray):Int:=if ltB a b=true then -1 else if ltB b a=true then 1 else 0
theorem less_eq (a b:ByteArray):Op.bytesLess a.toList b.toList=ltB a b:=by
 rw [ByteArray.toList_eq,ByteArray.toList_eq,Kt]
 rfl
theorem compare_any (a b:ByteArray)(w:World):Calls prog 170 #[.string a,.string b] w fun e w'=>e = .returned (.int .i64 (cmpZ a b))∧w=w':=by
 by_cases d:ltB a b=true
 ·have j:Op.bytesLess a.toList b.toList=true:=by rw [less_eq];exact d
  have h:Hid (cmpZ a b = -1):=qI (by unfold cmpZ;rw [if_pos d])
  clear d
  go_enter func170,ntmps170
  go_wp2
  go_ret
  rw [h.o]
  exact⟨rfl,rfl⟩
 have j:Op.bytesLess a.toList b.toList=false:=by rw [less_eq];simpa using d
 by_cases h2:ltB b a=true
 ·have f:a≠b:=fun e=>by subst e;exact d h2
  have k:=(jS f).1
  have h:Hid (cmpZ a b=1):=qI (by unfold cmpZ;rw [if_neg d,if_pos h2])
  clear d h2 f
  go_enter func170,ntmps170
  go_wp2
  go_ret
  rw [h.o]
  exact⟨rfl,rfl⟩
 ·have i:a=b:=ltB_none d h2
  have k:=(vu i).1
  have h:Hid (cmpZ a b=0):=qI (by unfold cmpZ;rw [if_neg d,if_neg h2])
  clear d h2 i
  go_enter func170,ntmps170
  go_wp2
  go_ret
  rw [h.o]
  exact⟨rfl,rfl⟩
structure PC where
 key:ByteArray
 k:Int
 m:Int
 s:ByteArray
 p:Option Addr
 i:Nat
 c:Nat
 q:Option Addr
 j:Nat
 d:Nat
instance pcInh:Inhabited PC:=⟨⟨⟨#[]⟩,0,0,⟨#[]⟩,none,0,0,none,0,0⟩⟩
def PC.cs (x:PC):List Value:=[.int .i64 x.k,.int .i64 x.m,.string x.s,.slice x.p x.i x.c,.slice x.q x.j x.d]
def PC.enc (x:PC):List Value:=.string x.key::x.cs
def PC.cf (x y:PC):Int:=cmpZ x.key y.key
theorem PC.enc_len (x:PC):x.enc.length=6:=rfl
theorem PC.enc_one (x:PC):∀ v∈x.enc,v.oneCell'=true:=by
 intro v hv
 simp only [PC.enc,PC.cs,List.mem_cons,List.not_mem_nil,or_false] at hv
 rcases hv with rfl | rfl | rfl | rfl | rfl | rfl <;> rfl
theorem byKey_any (x y:PC)(w:World):Calls prog 121 #[.agg x.enc.toArray,.agg y.enc.toArray] w fun e w'=>e = .returned (.int .i64 (x.cf y))∧w'=grow (w.drewN 0) #[.cells x.enc.toArray 41,.cells y.enc.toArray 41]:=by
 obtain⟨key,k,m,s,p,i,c,q,j,d⟩:=x
 obtain⟨a,r,l,b,h,u,t,n,f,v⟩:=y
 have z:Hid (grow (w.drewN 0) #[.cells #[.string key,.int .i64 k,.int .i64 m,.string s,.slice p i c,.slice q j d] 41,.cells #[.string a,.int .i64 r,.int .i64 l,.string b,.slice h u t,.slice n f v] 41]=(w.alloc (.cells #[.string key,.int .i64 k,.int .i64 m,.string s,.slice p i c,.slice q j d] 41)).alloc (.cells #[.string a,.int .i64 r,.int .i64 l,.string b,.slice h u t,.slice n f v] 41)):=qI (by
  rw [Sort.alloc_eq_grow,Sort.alloc_eq_grow,Sort.grow_grow];rfl)
 show Calls prog 121 #[.agg #[.string key,.int .i64 k,.int .i64 m,.string s,.slice p i c,.slice q j d],.agg #[.string a,.int .i64 r,.int .i64 l,.string b,.slice h u t,.slice n f v]] w fun e w'=>e = .returned (.int .i64 (cmpZ key a))∧w'=grow (w.drewN 0) #[.cells #[.string key,.int .i64 k,.int .i64 m,.string s,.slice p i c,.slice q j d] 41,.cells #[.string a,.int .i64 r,.int .i64 l,.string b,.slice h u t,.slice n f v] 41]
 rw [z.o]
 go_enter func121,ntmps121
 go_wp2_with (go_at_call 170;refine (compare_any key a _).mono ?_;rintro e w2 ⟨rfl,rfl⟩)
 go_ret
 exact⟨rfl,rfl⟩
theorem ltOf_key (x y:PC):ltOf PC.cf x y=ltB x.key y.key:=by
 unfold ltOf PC.cf cmpZ
 by_cases a:ltB x.key y.key=true
 ·rw [if_pos a,a];rfl
 ·rw [if_neg a]
  have b:ltB x.key y.key=false:=by simpa using a
  rw [b]
  split <;> rfl
theorem swo_keys:Sort.SWO (ltOf PC.cf):=by
 have e:=ltOf_key
 refine⟨fun x=>?_,fun x y z a h2=>?_,fun x y z a h2=>?_⟩
 ·rw [e];unfold ltB;simp
 ·rw [e] at a h2 ⊢
  unfold ltB at *
  rw [decide_eq_true_iff] at *
  exact List.lt_trans a h2
 ·rw [e] at a h2 ⊢
  unfold ltB at *
  rw [decide_eq_false_iff_not] at *
  rw [List.not_lt] at *
  exact List.le_trans h2 a
theorem agg_pair (w:World):(isAgg 41).run prog w = .ok true w:=isAgg41 w
theorem size_pair (w:World):(Go.sizeOf 41).run prog w = .ok 6 w:=sizeOf41 w
theorem enter_byKey:∀ (args:Array Value) (w:World),(callFunc 121 args).run prog w = .ok (.enter 121 args) w:=enters_of func121 Wr rfl
theorem enc_get (a:List PC)(t:Nat)(h:t<a.length*6):(a.flatMap PC.enc)[t]? = some (((a[t/6]'(Ws)).enc)[t%6]!):=by
 have d:a.flatMap PC.enc=(a.map PC.enc).flatten:=by simp [List.flatMap]
 have h2:=kK (size:=6) (a.map PC.enc) (t/6) (t%6) (by intro c hc;obtain⟨x,_,rfl⟩:=List.mem_map.1 hc;rfl) (by simp;omega) Ws
 have e:t/6*6+t%6=t:=Ws
 rw [e] at h2
 rw [d,h2,List.getElem_map]
 have b:t%6<(a[t/6]'(Ws)).enc.length:=by rw [PC.enc_len];omega
 rw [List.getElem?_eq_getElem b]
 congr 1
 exact (getElem!_pos (a[t/6]'(Ws)).enc (t%6) b).symm
theorem QX (a:List PC):(a.flatMap PC.enc).length=a.length*6:=by
 induction a with
 | nil=>rfl
 | cons x a ih=>rw [List.flatMap_cons,List.length_append,ih,PC.enc_len,List.length_cons];omega
theorem sortPairs_any {w:World}{B g cap:Nat}{ms:List PC}(p:w.ownsRow B 41 6 (.slice (some ⟨g,0,none⟩) n cap) n (ms.flatMap PC.enc))(J:ms.length=n)(H:n≤1000000) : Calls prog 120 #[.slice (some ⟨g,0,none⟩) n cap,.func (.func 121) #[] #[]] w fun e w'=> e = .returned (.tuple #[])∧∃ ds:List PC,ds.Perm ms∧ds.Pairwise (fun x y=>ltB y.key x.key=false)∧w'.ownsRow B 41 6 (.slice (some ⟨g,0,none⟩) n cap) n (ds.flatMap PC.enc)∧zb [g] w w':=by
 subst J
 obtain⟨hl,L⟩:=p
 obtain⟨b,M,v,hc,hm,E,R⟩:∃ b,B≤g∧w.heap[g]? = some (.cells b 41 (0,0))∧ms.length≤cap∧cap≤maxLen∧b.size=cap*6∧b.toList.take (ms.length*6)=ms.flatMap PC.enc:=by
  rcases L with ⟨h,_⟩ | ⟨g',F,b,hv,Y,O,U,G,P,Z⟩
  ·cases h
  ·simp only [Value.slice.injEq,Option.some.injEq,Addr.mk.injEq,and_true,true_and] at hv
   obtain⟨rfl,rfl⟩:=hv
   exact⟨b,Y,O,U,G,P,Z⟩
 have D:ms.length*6≤cap*6:=Nat.mul_le_mul_right 6 hc
 have N:HoldsK PC.enc 6 w g 0 ms.toArray:=by
  intro j u
  rw [size_flatK] at u
  have f:j<ms.length*6:=by simpa using u
  rw [get_flatK _ _ _ _ u,Nat.zero_add]
  have d:b[j]? = some ((ms[j/6]'(Ws)).enc[j%6]!):=by
   rw [← enc_get ms j f,← R,List.getElem?_take,if_pos f,Array.getElem?_toList]
  refine⟨?_,zh v⟩
  rw [za v d]
  have h2:j/6<ms.toArray.size:=by simp;omega
  rw [getElem!_pos ms.toArray (j/6) h2]
  simp
 have q:CmpLays prog 121 #[] PC.enc 6 PC.cf g 0 ms.toArray.size w:=by
  intro m os dk _ x y
  exact (byKey_any x y _).mono fun e w' ⟨d,h2⟩=>⟨d,0,_,h2⟩
 refine (AnyQ.slices_SortFunc Tryz.shSort 6 agg_pair size_pair PC.enc PC.enc_len PC.enc_one PC.cf swo_keys 121 #[] g 0 cap ms.toArray w enter_byKey q N (lt_of_block v) (by simp;omega)).mono ?_
 rintro e w' ⟨rfl,a,m,os,hp,r,rfl⟩
 obtain⟨A,_,p3⟩:=hp
 have k:a.size=ms.length:=by simpa using A
 obtain⟨I,s,K,X,Q⟩:=sort_world PC.enc 6 v m a os (by rw [k,E];exact D)
 have l:a.toList.Perm ms:=by
  have d:(a.extract 0 ms.toArray.size)=a:=by rw [← A];exact Array.extract_size
  have h2:(ms.toArray.extract 0 ms.toArray.size)=ms.toArray:=Array.extract_size
  rw [d,h2] at p3
  simpa using p3
 refine⟨rfl,a.toList,l,?_,⟨?_,.inr ⟨g,cap,s,rfl,M,K,hc,hm,by rw [X];exact E,?_⟩⟩,I⟩
 ·rw [List.pairwise_iff_getElem]
  intro i j W u z
  have C:i<a.size:=by simpa using W
  have f:j<a.size:=by simpa using u
  have d:=r i j (XB) z (by rw [← A];exact f)
  rw [getElem!_pos a i C,getElem!_pos a j f] at d
  have h2:ltOf PC.cf a[j] a[i]=ltB a[j].key a[i].key:=ltOf_key _ _
  rw [h2] at d
  simpa using d
 ·rw [QX,Array.length_toList,k]
 ·apply List.ext_getElem?
  intro t
  rw [List.getElem?_take]
  by_cases d:t<ms.length*6
  ·rw [if_pos d,Array.getElem?_toList,Q t Ws,if_pos (by rw [k];exact d),enc_get a.toList t (by rw [Array.length_toList,k];exact d)]
   have h2:t/6<a.size:=Ws
   rw [getElem!_pos a (t/6) h2]
   simp
  ·rw [if_neg d,List.getElem?_eq_none (by rw [QX,Array.length_toList,k];omega)]
theorem row_cells {w:World}{o g:Nat}{c:List Value}(h:w.ownsRow base e size v n xs)(hv:v.ownBlock=some g)(C:o+c.length≤n*size) : (∃ ys,(w.setCells g o c).ownsRow base e size v n ys∧ys.length=xs.length∧∀ j,ys[j]? = if o≤j∧j<o+c.length then c[j-o]? else xs[j]?)∧w.there g o c.length∧zb [g] w (w.setCells g o c):=by
 obtain⟨B,h2⟩:=h
 rcases h2 with ⟨rfl,_⟩ | ⟨p,cap,f,rfl,x,m,b,hm,r,A⟩
 ·simp [Value.ownBlock] at hv
 ·simp [Value.ownBlock] at hv
  subst hv
  have u:n*size≤cap*size:=Nat.mul_le_mul_right size b
  obtain⟨a,t,s,y⟩:=qC p c o w f m
  have k:∀ j,(a.toList.take (n*size))[j]? = if o≤j∧j<o+c.length then c[j-o]? else xs[j]?:=by
   intro j
   rw [List.getElem?_take]
   by_cases l:j<n*size
   ·rw [if_pos l,Array.getElem?_toList,y j Ws]
    by_cases q:o≤j∧j<o+c.length
    ·rw [if_pos q,if_pos q]
    ·rw [if_neg q,if_neg q,← A,List.getElem?_take,if_pos l,Array.getElem?_toList]
   ·rw [if_neg l,if_neg Ws,List.getElem?_eq_none Ws]
  have d:(a.toList.take (n*size)).length=n*size:=by rw [List.length_take,Array.length_toList,s,r];omega
  refine⟨⟨a.toList.take (n*size),⟨d,.inr ⟨p,cap,a,rfl,x,t,b,hm,by rw [s];exact r,rfl⟩⟩,by rw [d,B],k⟩,?_,yN _ _ _ _⟩
  intro j l
  have z:o+j<f.size:=Ws
  have i:w.cell? ⟨p,o+j,none⟩=some f[o+j]:=za m (by simp [z])
  exact⟨by rw [i];rfl,zh m⟩
theorem take_set {α:Type}(f:α→β)(g:α→β)(l:List α)(k:Nat)(h:k<l.length):((l.take k).map f++(l.drop k).map g).set k (f l[k])=(l.take (k+1)).map f++(l.drop (k+1)).map g:=by
 rw [xP f l k h,List.drop_eq_getElem_cons h,List.map_cons,List.set_append]
 have e:((l.take k).map f).length=k:=by simp;omega
 rw [if_neg Ws,e,Nat.sub_self,List.set_cons_zero,List.append_assoc]
 rfl
theorem mixed_get {α:Type}(f:α→β)(g:α→β)(l:List α)(k:Nat)(h:k<l.length):((l.take k).map f++(l.drop k).map g)[k]? = some (g l[k]):=by
 have e:((l.take k).map f).length=k:=by simp;omega
 rw [List.getElem?_append_right Ws,e,Nat.sub_self,List.drop_eq_getElem_cons h]
 rfl
theorem right_nodup {v:VS (V n)}(h:zo (n+1) v=true):(v.m.map (fun p=>p.1)).Nodup:=by
 rcases jM (jR h) with q | q | q | q | q | q
 ·rw [q.2.2.2.2];exact List.nodup_nil
 ·rw [q.2.2.2.2];exact List.nodup_nil
 ·rw [q.2.2.2.2];exact List.nodup_nil
 ·rw [q.2.2.2.2];exact List.nodup_nil
 ·rw [q.2.2.2];exact List.nodup_nil
 ·have:=q.2.2.2.2
  unfold yV at this
  rw [Bool.and_eq_true,decide_eq_true_iff] at this
  exact this.2
theorem pcs_of {S:Nat→Prop}{w:World}:∀ {mcs:List (ByteArray×List Value)}{ms:List (ByteArray×V n)},zM (bh (Rep n S w)) mcs ms→∃ ds:List PC,mcs=ds.map (fun x=>(x.key,x.cs))∧zZ mcs=ds.flatMap PC.enc:=by
 intro mcs
 induction mcs with
 | nil=>intro ms _;exact⟨[],rfl,rfl⟩
 | cons p mcs ih=>
  intro ms h
  match ms,h with
  | [],h=>exact absurd h.1 Wz
  | q::ms,h=>
   obtain⟨ds,v,h2⟩:=ih (ms:=ms) ⟨by simpa using h.1,fun j a b r t=>h.2 (j+1) a b (by simpa using r) (by simpa using t)⟩
   have f:=(h.2 0 p q rfl rfl).2
   obtain⟨key,cs⟩:=p
   obtain⟨k,m,s,a,b,e⟩:=f.five
   simp only at e
   subst e
   obtain⟨u,i,c,l,j,d,rfl,rfl⟩:=f.sl
   refine⟨⟨key,k,m,s,u,i,c,l,j,d⟩:: ds,by rw [List.map_cons,v];rfl,?_⟩
   rw [List.flatMap_cons,← h2]
   rfl
theorem Slc.at6 {w:World}{x:Value}(h:Slc w 6 x m (zZ ms))(h6:∀ c,c∈ms.map yj→c.length=6)(p:j<ms.length){k i:Int}{a b:Value}(e:ms[j].2=[.int .i64 k,.int .i64 i,.string s,a,b]) : ∃ g o cap,x = .slice (some ⟨g,o,none⟩) m cap∧w.cell? ⟨g,o+j*6,none⟩=some (.string ms[j].1)∧w.cell? ⟨g,o+j*6+1,none⟩=some (.int .i64 k)∧w.cell? ⟨g,o+j*6+2,none⟩=some (.int .i64 i)∧w.cell? ⟨g,o+j*6+3,none⟩=some (.string s)∧w.cell? ⟨g,o+j*6+4,none⟩=some a∧w.cell? ⟨g,o+j*6+5,none⟩=some b:=by
 rw [yB] at h
 have q:=bX (ms.map yj) h6
 rw [List.length_map] at q
 have hm:=h.1
 rcases h.2 with ⟨_,r⟩ | ⟨r,_⟩ | ⟨g,o,cap,f,_,_,d⟩
 ·omega
 ·omega
 have hc:∀ i,i<6→(ms.map yj).flatten[j*6+i]? = (yj ms[j])[i]?:=fun i l=>by
  rw [kK (ms.map yj) j i h6 (by simpa using p) l,List.getElem_map]
 have n:yj ms[j]=[.string ms[j].1,.int .i64 k,.int .i64 i,.string s,a,b]:=by
  show Value.string ms[j].1::ms[j].2=_
  rw [e]
 rw [n] at hc
 refine⟨g,o,cap,f,?_,?_,?_,?_,?_,?_⟩
 ·exact d.cells (j*6+0) _ (hc 0 Wo)
 all_goals rw [Nat.add_assoc]
 ·exact d.cells (j*6+1) _ (hc 1 Wo)
 ·exact d.cells (j*6+2) _ (hc 2 Wo)
 ·exact d.cells (j*6+3) _ (hc 3 Wo)
 ·exact d.cells (j*6+4) _ (hc 4 Wo)
 ·exact d.cells (j*6+5) _ (hc 5 Wo)
theorem pair_set (h6:∀ c,c∈ms.map yj→c.length=6)(a:k<ms.length){c ys:List Value}(hc:c.length=5)(b:∀ j,ys[j]? = if k*6+1≤j∧j<k*6+1+c.length then c[j-(k*6+1)]? else (zZ ms)[j]?):ys=zZ (ms.set k (ms[k].1,c)):=by
 apply List.ext_getElem?
 intro j
 rw [b j,yB,yB,List.map_set,flat_set (size:=6) (ms.map yj) k (yj (ms[k].1,c)) h6 (by simp [yj,hc]),List.length_map,hc]
 by_cases q:k*6+1≤j∧j<k*6+1+5
 ·rw [if_pos q,if_pos ⟨a,Ws,Ws⟩]
  show _=(Value.string ms[k].1::c)[j-k*6]?
  rw [show j-k*6=(j-(k*6+1))+1 by omega,List.getElem?_cons_succ]
 ·rw [if_neg q]
  by_cases d:j=k*6
  ·subst d
   rw [if_pos ⟨a,Ws,Ws⟩,Nat.sub_self]
   have:=kK (size:=6) (ms.map yj) k 0 h6 (by simpa using a) Wo
   rw [Nat.add_zero] at this
   rw [this,List.getElem_map]
   rfl
  ·rw [if_neg Ws]
def bK {α:Type}(v:VS α)(m:Int)(s:ByteArray)(l k:Nat):Prop:=
 (v.kind=1∧m=0∧s=⟨#[]⟩∧l=0∧k=0)∨(v.kind=2∧(v.num=0∨v.num=1)∧m=v.num∧s=⟨#[]⟩∧l=0∧k=0) ∨
 (v.kind=3∧(-9007199254740991≤v.num∧v.num≤9007199254740991)∧m=v.num∧s=⟨#[]⟩∧l=0∧k=0)∨(v.kind=4∧zw v.s=true∧m=0∧s=v.s∧l=0∧k=0) ∨
 (v.kind=5∧m=0∧s=⟨#[]⟩∧l=v.l.length∧k=0)∨(v.kind=6∧m=0∧s=⟨#[]⟩∧l=0∧k=v.m.length)
theorem ko {α:Type}(l:List α):l.isEmpty=decide (l.length=0):=by cases l <;> simp
theorem bare_own {α:Type}{v:VS α}{m:Int}{l:Nat}(h:bK v m s l k) : zE v=(decide (v.num=m)&&decide (v.s=s)&&decide (v.l.length=l)&&decide (v.m.length=k)&&(if v.kind=6 then yV v.m else true)):=by
 unfold zE bR
 simp only [ko]
 rcases h with ⟨a,rfl,rfl,rfl,rfl⟩ | ⟨a,h2,rfl,rfl,rfl,rfl⟩ | ⟨a,h2,rfl,rfl,rfl,rfl⟩ | ⟨a,h2,rfl,rfl,rfl,rfl⟩ | ⟨a,rfl,rfl,rfl,rfl⟩ | ⟨a,rfl,rfl,rfl,rfl⟩
 ·rw [a];simp
 ·rw [a];simp [h2]
 ·rw [a];simp [h2]
 ·rw [a];simp [h2,Bool.and_assoc]
 ·rw [a];simp
 ·rw [a]
  simp only [if_neg (show ¬ ((6:Int)=1) by decide),if_neg (show ¬ ((6:Int)=2) by decide),if_neg (show ¬ ((6:Int)=3) by decide),if_neg (show ¬ ((6:Int)=4) by decide),if_neg (show ¬ ((6:Int)=5) by decide),if_pos]
  cases yV v.m <;> cases decide (v.num=0) <;> cases decide (v.s=⟨#[]⟩) <;> cases decide (v.l.length=0) <;> simp
def kf {α:Type}(r:α→Bool):List ByteArray→List (ByteArray×α)→Bool
 | _,[]=>true
 | seen,p::t=>zw p.1&&r p.2 && !(seen.any (fun k=>decide (k=p.1)))&&kf r (seen++[p.1]) t
theorem zaJ {α:Type}(r:α→Bool):∀ (m:List (ByteArray×α)) (seen:List ByteArray),seen.Nodup →
  (kf r seen m=true↔(∀ p,p∈m→zw p.1=true∧r p.2=true)∧(seen++m.map (fun p=>p.1)).Nodup)
 | [],seen,hs=>by simp [kf,hs]
 | p::t,seen,hs=>by
  unfold kf
  rw [Bool.and_eq_true,Bool.and_eq_true,Bool.and_eq_true]
  by_cases hk:p.1∈seen
  ·have h1:(seen.any (fun k=>decide (k=p.1)))=true:=List.any_eq_true.2 ⟨p.1,hk,Wz⟩
   rw [h1]
   constructor
   ·rintro ⟨⟨_,h⟩,_⟩;simp at h
   ·rintro ⟨_,h⟩
    exact absurd hk (fun q=>by
     have:=(List.nodup_append.1 h).2.2 p.1 q p.1 Wz
     exact this rfl)
  ·have h1:(seen.any (fun k=>decide (k=p.1)))=false:=by
    rw [List.any_eq_false]
    intro x j e
    exact hk (by rw [decide_eq_true_iff] at e;rw [← e];exact j)
   have d:(seen++[p.1]).Nodup:=by
    refine List.nodup_append.2 ⟨hs,Wz,?_⟩
    intro a l b i e
    simp at i
    exact hk (by rw [← i,← e];exact l)
   rw [h1,zaJ r t (seen++[p.1]) d]
   simp only [List.map_cons,List.append_assoc,List.cons_append,List.nil_append,Bool.not_false,and_true,List.mem_cons,forall_eq_or_imp]
   constructor
   ·rintro ⟨h2,h3,f⟩;exact⟨⟨h2,h3⟩,f⟩
   ·rintro ⟨⟨h2,h3⟩,f⟩;exact⟨h2,h3,f⟩
theorem pairsOk_all {α:Type}(r:α→Bool)(m:List (ByteArray×α)):kf r [] m=(yV m&&m.all (fun p=>r p.2)):=by
 rw [Bool.eq_iff_iff,zaJ r m [] List.nodup_nil,Bool.and_eq_true]
 unfold yV
 rw [Bool.and_eq_true,List.all_eq_true,List.all_eq_true,decide_eq_true_iff,List.nil_append]
 constructor
 ·rintro ⟨a,h2⟩;exact⟨⟨fun p hp=>(a p hp).1,h2⟩,fun p hp=>(a p hp).2⟩
 ·rintro ⟨⟨a,h2⟩,h3⟩;exact⟨fun p hp=>⟨a p hp,h3 p hp⟩,h2⟩
theorem right_bare {v:VS (V n)}{m:Int}{l:Nat}(h:bK v m s l k) : zo (n+1) v=(decide (v.num=m)&&decide (v.s=s)&&decide (v.l.length=l)&&decide (v.m.length=k)&&v.l.all (zo n)&&kf (zo n) [] v.m):=by
 have e:zo (n+1) v=(zE v&&v.kids.all (zo n)):=rfl
 have a:v.kids.all (zo n)=(v.l.all (zo n)&&v.m.all (fun p=>zo n p.2)):=by
  unfold VS.kids
  rw [List.all_append,List.all_map]
  rfl
 rw [e,bare_own h,a,pairsOk_all]
 by_cases h6:v.kind=6
 ·rw [if_pos h6]
  cases yV v.m <;> cases v.l.all (zo n) <;> cases v.m.all (fun p=>zo n p.2) <;> simp
 ·rw [if_neg h6]
  have b:k=0:=by
   rcases h with h | h | h | h | h | h
   ·exact h.2.2.2.2
   ·exact h.2.2.2.2.2
   ·exact h.2.2.2.2.2
   ·exact h.2.2.2.2.2
   ·exact h.2.2.2.2
   ·exact absurd h.1 h6
  subst b
  by_cases hm:v.m.length=0
  ·have:=List.eq_nil_of_length_eq_zero hm
   rw [this]
   cases v.l.all (zo n) <;> simp [yV]
  ·simp [hm]
open Go.Lib (decodeL)
structure xH (w:World):Prop where
 utf:Lib.Utf8Tabs (Tryz.shDecode_ren.g 3) (Tryz.shDecode_ren.g 4) w
 case:Lib.CaseVar (Tryz.shToLower_ren.g 13) Lib.caseA w
 pow : Lib.TabIs Tryz.prog w "internal/strconv.uint64pow10" .u64 Lib.pow10Tab
theorem xH.k0 {w w':World}(h:xH w)(k:zb [] w w'):xH w':=by
 obtain⟨h1,h2,h3⟩:=h
 refine⟨⟨fun c hc=>k.cell (h1.1 c hc) Wz,fun i hi=>⟨k.cell (h1.2 i hi).1 Wz,k.cell (h1.2 i hi).2 Wz⟩⟩,?_,?_⟩
 ·obtain⟨R,oR,cap,q,t⟩:=h2
  exact⟨R,oR,cap,k.cell q Wz,fun i hi=>by
   obtain⟨a,b,c,d,e⟩:=t i hi
   exact⟨k.cell a Wz,k.cell b Wz,k.cell c Wz,k.cell d Wz,k.cell e Wz⟩⟩
 ·have hs : (Tryz.prog.globalNamed "internal/strconv.uint64pow10").isSome = true := by kernel_rfl
  obtain⟨g,hg⟩:=Option.isSome_iff_exists.1 hs
  exact Go.Joins.tab_stays hg h3 (k.below (XA) Wz) (XA)
theorem of_below {P:Program}{w:World}(h:Calls P f args w fun e w'=>e=r∧Below w.heap.size w w'):Calls P f args w fun e w'=>e=r∧zb [] w w':=
 h.mono fun _ _ ⟨h1,h2⟩=>⟨h1,zb.of_below h2⟩
theorem zaw {P:Program}{w:World}(h:Calls P f args w fun e w'=>e=r∧w'=w):Calls P f args w fun e w'=>e=r∧w=w':=
 h.mono fun _ _ ⟨h1,h2⟩=>⟨h1,h2.symm⟩
theorem libValid {w:World}(a:xH w)(s:ByteArray)(b:s.size≤281474976710656):Calls prog 258 #[.string s] w fun e w'=>e = .returned (.bool (zw s))∧zb [] w w':=
 of_below (Any.utf8_ValidString Tryz.shValid s w Ws a.utf)
theorem libDecode {w:World}(a:xH w)(s:ByteArray):Calls prog 199 #[.string s] w fun e w'=>e = .returned (.tuple #[.int .i32 (Lib.decodeGo s).1,.int .i64 (Lib.decodeGo s).2])∧zb [] w w':=
 of_below (Any.utf8_DecodeRuneInString Tryz.shDecode s w a.utf)
theorem ku (s:ByteArray)(c:Int)(w:World):Calls prog 104 #[.string s,.int .u8 c] w fun e w'=>e = .returned (.int .i64 (Lib.indexByte s.data.toList c.toNat.toUInt8))∧w=w':=
 zaw (Any.strings_IndexByte Tryz.shIndexByte s c w)
theorem kt (s p:ByteArray)(w:World):Calls prog 218 #[.string s,.string p] w fun e w'=>e = .returned (.bool (p.data.toList.isPrefixOf s.data.toList))∧w=w':=
 zaw (Any.strings_HasPrefix Tryz.shHasPrefix s p w)
theorem Kh (r:Int)(w:World):Calls prog 255 #[.int .i32 r] w fun e w'=>e = .returned (.bool (Lib.validRune r))∧w=w':=
 zaw (Any.utf8_ValidRune Tryz.shValidRune r w)
theorem libFormatBool (b:Bool)(w:World):Calls prog 192 #[.bool b] w fun e w'=>e = .returned (.string (zx (Lib.formatBool b)))∧w=w':=
 zaw (Any.strconv_FormatBool Tryz.shFormatBool b w)
theorem kept_grow {w:World}(n:Nat)(os:Array Obj):zb [] w (Sort.grow (w.drewN n) os):=
 ⟨rfl,rfl,rfl,by simp [Sort.grow],fun k a _=>by
  show (w.heap++os)[k]? = w.heap[k]?
  rw [Array.getElem?_append_left a]⟩
theorem libItoa {w:World}(d:xH w)(n:Int)(b:-9223372036854775808≤n)(a:n≤9223372036854775807):Calls prog 193 #[.int .i64 n] w fun e w'=>e = .returned (.string (zx (Lib.itoa n)))∧zb [] w w':=
 (Any.strconv_Itoa Tryz.shItoa n b a w d.pow).mono fun e w' ⟨a,k,os,h2⟩=>⟨a,by rw [h2];exact kept_grow k os⟩
theorem lowerExtra:Builder.Extra prog Tryz.shToLower_ren:={
 sizeBuilder:=Wr
 liesBuilder:=Wr
 t5:=underlying5
 a5:=isAgg5
 z5:=sizeOf5
 v5:=zeroValue5
 infoByte:=Wr
 cellsByte:=Wr
 sizeByte:=Wr
 neB5:=by decide }
theorem libToLower {w:World}(a:xH w)(s:ByteArray)(b:s.size≤1000000):Calls prog 276 #[.string s] w fun e w'=>e = .returned (.string (zx (Lib.toLowerD s.data.toList)))∧zb [] w w':=
 of_below (Any.strings_ToLower_any Tryz.shToLower lowerExtra s w Ws a.case a.utf)
theorem JX (s cs:ByteArray)(w:World)(a:cs.size≤100)(h2:∀ (j:Nat) b,cs.data.toList[j]? = some b→b.toNat<128):Calls prog 172 #[.string s,.string cs] w fun e w'=>e = .returned (.string (zx (Lib.trimLeftS s.data.toList cs.data.toList)))∧zb [] w w':=
 of_below (Any.strings_TrimLeft_laid Tryz.shTrimLeft Wr s cs w Ws h2)
theorem libTrim (s cs:ByteArray)(w:World)(a:s.size≤281474976710656)(d:cs.size≤100)(h2:∀ (j:Nat) b,cs.data.toList[j]? = some b→b.toNat<128):Calls prog 102 #[.string s,.string cs] w fun e w'=>e = .returned (.string (zx (Lib.trimS s.data.toList cs.data.toList)))∧zb [] w w':=
 of_below (Any.strings_Trim_laid Tryz.shTrim Wr s cs w Ws Ws h2)
theorem zbt {w:World}(b:xH w)(s:ByteArray)(d:s.size≤281474976710656):zJ w 242 #[.string s] (.bool (zw s)):=by
 have C:=qI (libValid b s d)
 clear b
 go_enter func242,ntmps242
 go_wp2_with (go_at_call 258;refine C.o.mono ?_;rintro e w2 ⟨rfl,a⟩)
 go_ret
 exact⟨rfl,a⟩
theorem decodeGo_eq (s:ByteArray):Lib.decodeGo s=if s.data.toList=[] then (65533,0) else decodeL s.data.toList:=by
 unfold Lib.decodeGo decodeL
 have e:s.size=s.data.toList.length:=Wz
 have a:(⟨s.data.toList.toArray⟩:ByteArray)=s:=by cases s;simp
 rw [a]
 by_cases h:s.data.toList=[]
 ·rw [if_pos h,if_pos (by rw [e,h];rfl)]
 ·rw [if_neg h,if_neg (by rw [e];exact fun q=>h (List.eq_nil_of_length_eq_zero q))]
theorem utfNext {w:World}(t:xH w)(s:ByteArray)(B:s.size≤281474976710656):zJ w 261 #[.string s] (.tuple #[.int .i64 (kj s.data.toList).1,.int .i64 (kj s.data.toList).2]):=by
 have C:=qI (libDecode t s)
 have y:=qI (decodeGo_eq s)
 have m:Hid ((kj s.data.toList=((-1:Int),0)∧((Lib.decodeGo s).2=0∨((Lib.decodeGo s).1=65533∧(Lib.decodeGo s).2=1)))∨(kj s.data.toList=(((Lib.decodeGo s).1:Int),(Lib.decodeGo s).2)∧(Lib.decodeGo s).1≤1114111∧(Lib.decodeGo s).2≤4∧¬ ((Lib.decodeGo s).2=0)∧¬ ((Lib.decodeGo s).1=65533∧(Lib.decodeGo s).2=1))):=qI (by
  rw [y.o]
  unfold kj
  by_cases h:s.data.toList=[]
  ·rw [if_pos (.inl h),if_pos h]
   exact .inl ⟨rfl,.inl rfl⟩
  ·rw [if_neg h]
   by_cases i:(decodeL s.data.toList).1=65533∧(decodeL s.data.toList).2=1
   ·rw [if_pos (.inr i)]
    exact .inl ⟨rfl,.inr i⟩
   ·rw [if_neg (by rintro (q | q);exact h q;exact i q)]
    have D:=vE h i
    have hp:=D.pos
    have l:=(code_of D).2
    have hv:=D.valid
    exact .inr ⟨rfl,Ws,l,Ws,i⟩)
 clear t
 revert C m
 generalize kj s.data.toList=N
 generalize Lib.decodeGo s=p
 obtain⟨r,k⟩:=p
 intro C m
 simp only at C m
 rcases m.o with ⟨rfl,rfl | ⟨rfl,rfl⟩⟩ | ⟨rfl,u,h2,h3,l⟩
 ·go_enter func261,ntmps261
  go_wp2_with (go_at_call 199;refine C.o.mono ?_;rintro e w2 ⟨rfl,d⟩)
  go_ret2
  exact⟨rfl,d⟩
 ·go_enter func261,ntmps261
  go_wp2_with (go_at_call 199;refine C.o.mono ?_;rintro e w2 ⟨rfl,d⟩)
  go_ret2
  exact⟨rfl,d⟩
 ·have x:((k:Int) == 0)=false:=(jQ (a:=k) (b:=0) h3).1
  have v:(r:Int)≤1114111:=Ws
  have A:(0:Int)<k:=Ws
  by_cases j:r=65533
  ·have f:=(YT j).1
   have z:((k:Int) == 1)=false:=(jQ (a:=k) (b:=1) (fun e=>l ⟨j,e⟩)).1
   have n:((r:Int) == 65533)=true:=f
   clear u h2 h3 l j f
   go_enter func261,ntmps261
   go_wp2_with (go_at_call 199;refine C.o.mono ?_;rintro e w2 ⟨rfl,d⟩)
   go_ret2
   exact⟨rfl,d⟩
  ·have f:=(jQ j).1
   have n:((r:Int) == 65533)=false:=f
   clear u h2 h3 l j f
   go_enter func261,ntmps261
   go_wp2_with (go_at_call 199;refine C.o.mono ?_;rintro e w2 ⟨rfl,d⟩)
   go_ret2
   exact⟨rfl,d⟩
theorem zp.at {w:World}{c:Nat}(h:zp w (.slice a l.length c) l)(d:k<l.length):∃ g o,a=some ⟨g,o,none⟩∧w.cell? ⟨g,o+k,none⟩=some (.int .u8 l[k].toNat):=by
 rcases h.2 with ⟨_,e⟩ | ⟨e,_⟩ | ⟨g,o,cap,hv,_,_,b⟩
 ·omega
 ·omega
 ·simp only [Value.slice.injEq] at hv
  exact⟨g,o,hv.1,b.cells k (bv l[k]) (by simp [d])⟩
def bp (l:List UInt8):List UInt8:=l.flatMap (fun c=>[vD (c.toNat/16),vD (c.toNat%16)])
theorem hexL_snoc (l:List UInt8)(c:UInt8):bp (l++[c])=(bp l++[vD (c.toNat/16)])++[vD (c.toNat%16)]:=by simp [bp]
theorem bT:∀ (l:List UInt8),(bp l).length=2*l.length
 | []=>rfl
 | c::l=>by
  have:=bT l
  simp only [bp,List.flatMap_cons,List.length_append,List.length_cons,List.length_nil] at *
  omega
theorem hexc:∀ (k:Nat) (h:k<16),(⟨#[48,49,50,51,52,53,54,55,56,57,97,98,99,100,101,102]⟩:ByteArray)[k]'h=vD k:=by
 have h:∀ k:Fin 16,(⟨#[48,49,50,51,52,53,54,55,56,57,97,98,99,100,101,102]⟩:ByteArray)[k.val]'k.isLt=vD k.val:=Wo
 exact fun k a=>h ⟨k,a⟩
theorem zaz {w:World}{c:Nat}(h:zp w (.slice a l.length c) l)(K:l.length≤1000000)(B:l≠[]) : zJ w 52 #[.slice a l.length c] (.string (zx (bp l))):=by
 have H:=qI h
 obtain⟨n,p⟩:=XE (w.alloc (.cells #[.pointer none,.slice none 0 0] 141))
 have v:Hid (zb [] w n):=qI (kA1 p.o)
 have F:Hid (BW 141 n w.heap.size n []):=qI (BW.new (by rw [p.o];exact ze rfl))
 clear h
 go_enter func52,ntmps52
 go_wp2_with fail
 rw [← p.o]
 go_loopw [8] (fun i wr=>∃ k:Nat,i = .int .i64 k∧k≤l.length∧BW 141 n w.heap.size wr (bp (l.take k))) (fun i _=>l.length-(intOf i).toNat)
 case atStart=>exact⟨0,rfl,XB,F.o⟩
 case round=>
  obtain⟨k,rfl,I,r⟩:=hrel
  have A:=qI r
  have G:Hid (zb [] w wr):=qI (v.o.trans r.kept (by intro i j;simp at j;subst j;exact .inr (XA)))
  clear r
  by_cases f:k<l.length
  ·have y:(k:Int)<l.length:=by omega
   obtain⟨g,o,rfl,z⟩:=zp.at (H.o.k0 G.o) f
   have u:(l[k].toNat:Int)≤255:=XC (l[k].toNat_lt)
   have q:Hid (bp (l.take (k+1))=(bp (l.take k)++[vD (l[k].toNat/16)])++[vD (l[k].toNat%16)]):=qI (by rw [List.take_succ_eq_append_getElem f,hexL_snoc])
   revert z u q
   generalize l[k]=x
   intro z u q
   have m:(bp (l.take k)).length≤50000000:=by rw [bT,List.length_take];omega
   go_wp2_with fail
   refine (qd xJ A.o Ws _).mono ?_
   rintro e J ⟨rfl,b,-⟩
   rw [hexc _ Ws] at b
   have t:=qI b
   clear b
   go_wp2_with fail
   refine (qd xJ t.o (by rw [List.length_append];simp only [List.length_cons,List.length_nil];omega) _).mono ?_
   rintro e w2 ⟨rfl,d,-⟩
   rw [hexc _ Ws,← q.o] at d
   have E:=qI d
   clear d
   go_wp2_with fail
   case roundEnd=>exact⟨⟨k+1,by go_num,Ws,E.o⟩,by simp [intOf];omega⟩
  ·obtain rfl:k=l.length:=by omega
   have t:Hid (BW 141 n w.heap.size wr (bp l)):=qI (by have:=A.o;rw [List.take_length] at this;exact this)
   have D:=qI B
   clear B
   have m:(bp l).length≤50000000:=by rw [bT];omega
   go_wp2_with (go_at_call 100;refine (bD t.o Ws (by intro e;have C:=congrArg List.length e;rw [bT] at C;simp only [List.length_nil] at C;exact D.o (List.eq_nil_of_length_eq_zero Ws))).mono ?_;rintro e w2 ⟨rfl,s,-⟩)
   go_ret
   exact⟨rfl,v.o.trans s (by intro i j;simp at j;subst j;exact .inr (XA))⟩
theorem wbyte_34 (a:JV T){w:World}(h:BW T W b w l)(d:l.length≤100000000) : Calls prog 99 #[.pointer (some ⟨b,0,none⟩),.int .u8 34] w fun e w'=>e = .returned .nilIface∧BW T W b w' (l++[34])∧ye b w w':=qd a h d 34
theorem wbyte_92 (a:JV T){w:World}(h:BW T W b w l)(d:l.length≤100000000) : Calls prog 99 #[.pointer (some ⟨b,0,none⟩),.int .u8 92] w fun e w'=>e = .returned .nilIface∧BW T W b w' (l++[92])∧ye b w w':=qd a h d 92
theorem quoteB_len (c:UInt8):(yp c).length≤6:=by
 unfold yp
 split
 ·simp
 ·split <;> simp
theorem quote_take (s:List UInt8)(k:Nat):(((s.take k).flatMap yp)).length≤6*s.length:=by
 have h:∀ l:List UInt8,(l.flatMap yp).length≤6*l.length:=by
  intro l
  induction l with
  | nil=>simp
  | cons c l ih=>
   have:=quoteB_len c
   simp only [List.flatMap_cons,List.length_append,List.length_cons]
   omega
 have a:=h (s.take k)
 rw [List.length_take] at a
 omega
theorem utfQuote {w:World}(N:xH w)(s:ByteArray)(hs:s.size≤1000000)(hv:zw s=true) : zJ w 238 #[.string s] (.tuple #[.string (zx (yH s.data.toList)),.int .i64 0]):=by
 have M:=qI (zbt N s Ws)
 rw [hv] at M
 have C:Hid (s.data.toList.length=s.size):=qI Wz
 clear N hv
 go_enter func238,ntmps238
 go_wp2_with (go_at_call 242;refine M.o.mh ?_;rintro e q rfl R)
 obtain⟨A,F⟩:=XE (q.alloc (.cells #[.pointer none,.slice none 0 0] 141))
 have J:Hid (zb [] q A):=qI (kA1 F.o)
 have Gg:Hid (BW 141 A q.heap.size A []):=qI (BW.new (by rw [F.o];exact ze rfl))
 rw [← F.o]
 refine (wbyte_34 xJ Gg.o Wz).mono ?_
 rintro e w2 ⟨rfl,y,-⟩
 have Gi:=qI y
 clear y
 go_wp2_with fail
 go_loopw [13] (fun i wr=>∃ k:Nat,i = .int .i64 k∧k≤s.size∧BW 141 A q.heap.size wr (34::(s.data.toList.take k).flatMap yp)) (fun i _=>s.size-(intOf i).toNat)
 case atStart=>exact⟨0,rfl,XB,Gi.o⟩
 case round=>
  obtain⟨k,rfl,hk,H⟩:=hrel
  have m:=qI H
  have Gb:Hid (zb [] q wr):=qI (J.o.trans H.kept (by intro i u;simp at u;subst u;exact .inr (XA)))
  clear H
  have K:(34::(s.data.toList.take k).flatMap yp:List UInt8).length≤6000001:=by
   have:=quote_take s.data.toList k
   rw [C.o] at this
   rw [List.length_cons]
   omega
  by_cases h:k<s.size
  ·have P:(k:Int)<s.size:=by omega
   have j:k<s.data.toList.length:=by rw [C.o];exact h
   have p:Hid (34::(s.data.toList.take (k+1)).flatMap yp=(34::(s.data.toList.take k).flatMap yp)++yp (s[k]'h)):=qI (by
    rw [List.take_succ_eq_append_getElem j,List.flatMap_append,List.cons_append]
    simp only [List.flatMap_cons,List.flatMap_nil,List.append_nil]
    rfl)
   have O:((s[k]'h).toNat:Int)≤255:=XC ((s[k]'h).toNat_lt)
   clear j
   revert O p
   generalize 34::(s.data.toList.take k).flatMap yp=L at *
   generalize aa:s[k]'h=x
   intro p O
   by_cases d:x.toNat<32
   ·have r:(x.toNat:Int)<32:=by omega
    have z:Hid (yp x=[92,117,48,48]++bp [x]):=qI (by unfold yp;rw [if_pos d];rfl)
    have Z:=qI (zaz (w:=wr.alloc (.cells #[.int .u8 x.toNat] 5)) (a:=some ⟨wr.heap.size,0,none⟩) (c:=1) (l:=[x]) (ZV wr (bv x) 5 _ rfl) Wz Wz)
    clear d
    go_wp2_with (go_at_call 52;refine Z.o.mono ?_;rintro e I ⟨rfl,t⟩;have X:=qI (((zb.refl [] wr).alloc (.cells #[.int .u8 x.toNat] 5)).then t);clear t)
    have Q:Hid ((({ data:=#[92,117,48,48] }:ByteArray)++zx (bp [x])).data.toList=[92,117,48,48]++bp [x]):=qI (by
     rw [ByteArray.data_append,Array.toList_append,zK])
    refine (vg xJ (m.o.stay X.o) Ws _ (by rw [← ByteArray.size_data,← Array.length_toList,Q.o,List.length_append,bT];simp)).mono ?_
    rintro e U ⟨rfl,f,-⟩
    rw [Q.o,← z.o,← p.o] at f
    have D:=qI f
    clear f
    go_wp2_with fail
    case roundEnd=>exact⟨⟨k+1,by go_num,Ws,D.o⟩,by simp [intOf];omega⟩
   ·have r:¬ (x.toNat:Int)<32:=by omega
    by_cases hc:x=34∨x=92
    ·have z:Hid (yp x=[92]++[x]):=qI (by unfold yp;rw [if_neg d,if_pos hc];rfl)
     have hg:((x.toNat:Int) == 34)=true∨(((x.toNat:Int) == 34)=false∧((x.toNat:Int) == 92)=true):=by
      rcases hc with rfl | rfl
      ·exact .inl rfl
      ·exact .inr ⟨rfl,rfl⟩
     clear hc d
     rcases hg with W | ⟨W,Y⟩
     all_goals
      go_wp2_with fail
      refine (wbyte_92 xJ m.o Ws).mono ?_
      rintro e I ⟨rfl,b,-⟩
      have n:=qI b
      clear b
      go_wp2_with fail
      refine (qd xJ n.o (by rw [List.length_append];simp only [List.length_cons,List.length_nil];omega) x).mono ?_
      rintro e U ⟨rfl,f,-⟩
      have D:=qI f
      clear f
      go_wp2_with fail
      case roundEnd=>exact⟨⟨k+1,by go_num,Ws,by rw [p.o,z.o,← List.append_assoc];exact D.o⟩,by simp [intOf];omega⟩
    ·have z:Hid (yp x=[x]):=qI (by unfold yp;rw [if_neg d,if_neg hc])
     have E:∀ v:UInt8,x≠v→((x.toNat:Int) == (v.toNat:Int))=false:=fun v hv=>(jQ (fun e=>hv (UInt8.toNat_inj.1 e))).1
     have W:((x.toNat:Int) == 34)=false:=E 34 (fun e=>hc (.inl e))
     have Y:((x.toNat:Int) == 92)=false:=E 92 (fun e=>hc (.inr e))
     clear hc d E
     go_wp2_with fail
     refine (qd xJ m.o Ws x).mono ?_
     rintro e I ⟨rfl,b,-⟩
     have n:=qI b
     clear b
     go_wp2_with fail
     case roundEnd=>exact⟨⟨k+1,by go_num,Ws,by rw [p.o,z.o];exact n.o⟩,by simp [intOf];omega⟩
  ·obtain rfl:k=s.size:=by omega
   have B:Hid ((34::(s.data.toList.take s.size).flatMap yp)++[34]=yH s.data.toList):=qI (by
    rw [List.take_of_length_le (by rw [C.o];exact XA)]
    rfl)
   revert K m B
   generalize 34::(s.data.toList.take s.size).flatMap yp=L
   intro m K B
   go_wp2_with (first
    | (go_at_call 99;refine (wbyte_34 xJ m.o Ws).mono ?_;rintro e I ⟨rfl,b,-⟩;rw [B.o] at b;have n:=qI b;clear b)
    | (go_at_call 100;refine (bD n.o (by rw [← B.o,List.length_append];simp only [List.length_cons,List.length_nil];omega) (by unfold yH;exact List.cons_ne_nil _ _)).mono ?_;rintro e U ⟨rfl,G,-⟩))
   go_ret2
   exact⟨rfl,(R.o.then J.o).trans G (by intro i u;simp at u;subst u;exact .inr R.o.size)⟩
open Go.Maps (Keyed)
theorem keyStr:Keyed prog 9:=Maps.string_keyed underlying9
theorem sameStr (x y:List UInt8):(Lit.string x).sameKey (.string y)=decide (x=y):=by
 by_cases h:x=y <;> simp [Lit.sameKey,h]
theorem keyOfStr (s:ByteArray)(a:s.size≤281474976710656):keyOf prog 9 (.string s)=some (.string s.data.toList):=Go.WideMaps.keyOf_string_mk (P:=prog) underlying9 (by simp only [maxLen];omega)
def qY (w:World)(b:Nat)(seen:List ByteArray):Prop:=
 ∃ n M,vY prog w 9 b n M∧n≤seen.length∧∀ s:ByteArray,M (.string s.data.toList)=if seen.any (fun k=>decide (k=s))=true then some (Value.bool true) else none
theorem seen_new {w:World}(a:w.heap.size=b):qY (w.alloc (.map #[] 0)) b []:=by
 subst a;exact⟨0,_,mapAt_made _ w _,XA,fun s=>by simp⟩
theorem qY.kept {w w':World}{b:Nat}{seen:List ByteArray}{X:List Nat}(h:qY w b seen)(k:zb X w w')(a:b ∉ X):qY w' b seen:=by
 obtain⟨n,M,d,h2,h3⟩:=h;exact⟨n,M,d.kept k a,h2,h3⟩
theorem qY.k0 {w w':World}(h:qY w b seen)(k:zb [] w w'):qY w' b seen:=h.kept k Wz
theorem qY.look {w:World}(h:qY w b seen)(s:ByteArray)(a:s.size≤281474976710656) : (Instr.lookup 255 (.map (some b)) (.string s) false).run prog w = .ok (.bool (seen.any (fun k=>decide (k=s)))) w:=by
 obtain⟨n,M,e,h2,h3⟩:=h;have d:=(e.lookup keyStr underlying255 (z:=.bool false) (zeroValue4 w) (keyOfStr s a)).2;rw [d,h3 s];cases seen.any (fun k=>decide (k=s)) <;> rfl
theorem qY.put {w:World}(h:qY w b seen)(s:ByteArray)(d:s.size≤281474976710656)(p:seen.length≤100000000) : ∃ w',(Instr.mapUpdate 255 (.map (some b)) (.string s) (.bool true)).run prog w = .ok () w'∧qY w' b (seen++[s])∧zb [b] w w':=by
 obtain⟨n,M,m,h2,h3⟩:=h;obtain⟨w',j,l,a,_⟩:=m.update keyStr underlying255 (by simp only [maxLen];omega) (keyOfStr s d) (.bool true);refine⟨w',j,⟨n+1,_,l,by rw [List.length_append];simp;omega,fun t=>?_⟩,a⟩;show (if (Lit.string t.data.toList).sameKey (.string s.data.toList)=true then some (Value.bool true) else M (.string t.data.toList))=_;rw [sameStr,List.any_append];by_cases e:t=s;·subst e;rw [if_pos Wz,if_pos Wz]
 ·have f:t.data.toList≠s.data.toList:=fun q=>e (zak q);have i:[s].any (fun k=>decide (k=t))=false:=by simp [Ne.symm e]
  rw [if_neg (by simpa using f),h3 t,i,Bool.or_false]
def ZR:List ByteArray→List ByteArray→Bool
 | _,[]=>true
 | seen,k::t=>!(seen.any (fun x=>decide (x=k)))&&zw k&&ZR (seen++[k]) t
theorem keysGo_eq:∀ (l seen:List ByteArray),seen.Nodup→(ZR seen l=true↔(∀ k,k∈l→zw k=true)∧(seen++l).Nodup)
 | [],seen,hs=>by simp [ZR,hs]
 | k::t,seen,hs=>by
  unfold ZR;rw [Bool.and_eq_true,Bool.and_eq_true];by_cases hk:k∈seen
  ·have h1:(seen.any (fun x=>decide (x=k)))=true:=List.any_eq_true.2 ⟨k,hk,Wz⟩;rw [h1];constructor;·rintro ⟨⟨h,_⟩,_⟩;simp at h
   ·rintro ⟨_,h⟩;exact absurd rfl ((List.nodup_append.1 h).2.2 k hk k Wz)
  ·have h1:(seen.any (fun x=>decide (x=k)))=false:=by rw [List.any_eq_false];intro x j e;rw [decide_eq_true_iff] at e;exact hk (e ▸ j)
   have d:(seen++[k]).Nodup:=by refine List.nodup_append.2 ⟨hs,Wz,?_⟩;intro a m b i e;simp at i;exact hk (by rw [← i,← e];exact m)
   rw [h1,keysGo_eq t (seen++[k]) d];simp only [List.append_assoc,List.cons_append,List.nil_append,Bool.not_false,true_and,List.mem_cons,forall_eq_or_imp];constructor;·rintro ⟨h2,h3,f⟩;exact⟨⟨h2,h3⟩,f⟩
   ·rintro ⟨⟨h2,h3⟩,f⟩;exact⟨h2,h3,f⟩
theorem keysGo_all {α:Type}(m:List (ByteArray×α)):ZR [] (m.map (fun p=>p.1))=yV m:=by
 rw [Bool.eq_iff_iff,keysGo_eq _ [] List.nodup_nil];unfold yV;rw [Bool.and_eq_true,List.all_eq_true,decide_eq_true_iff,List.nil_append];constructor;·rintro ⟨a,h2⟩;exact⟨fun p hp=>a p.1 (List.mem_map.2 ⟨p,hp,rfl⟩),h2⟩
 ·rintro ⟨a,h2⟩;exact⟨fun k b=>by obtain⟨p,hp,rfl⟩:=List.mem_map.1 b;exact a p hp,h2⟩
theorem keys_any {v:VS (V n)}{S:Nat→Prop}{w:World}{cs:List Value}{vl:Value}{b:Option Addr}{lcs:List (List Value)}{mcs:List (ByteArray×List Value)}(h:yk (Rep n S w) S w cs v vl (.slice b v.m.length e) lcs mcs)(hm:v.m.length≤20000)(B:∀ p,p∈v.m→p.1.size≤400000)(N:xH w) : zJ w 243 #[.slice b v.m.length e] (.bool (yV v.m)):=by
 have H:=qI h;have Gl:=qI B;have HT:=qI N;have D:=qI (keysGo_all v.m);obtain⟨J,A⟩:=XE (w.alloc (.map #[] 0));have Z:Hid (zb [] w J):=qI (kA1 A.o);have Gr:Hid (qY J w.heap.size []):=qI (by rw [A.o];exact seen_new rfl);clear h B N;have C:=@run_makeMap prog;go_enter func243,ntmps243;go_wp2_with fail;clear C;rw [← A.o];go_loopw [9] (fun i wr=>∃ k:Nat,i = .int .i64 k∧k≤v.m.length∧qY wr w.heap.size ((v.m.take k).map (fun p=>p.1))∧ZR ((v.m.take k).map (fun p=>p.1)) ((v.m.drop k).map (fun p=>p.1))=ZR [] (v.m.map (fun p=>p.1))∧zb [] w wr) (fun i _=>v.m.length-(intOf i).toNat);case atStart=>exact⟨0,rfl,XB,Gr.o,rfl,Z.o⟩
 case round=>
  obtain⟨k,rfl,B,E,W,t⟩:=hrel;have X:=qI E;have z:=qI W;have l:=qI t;clear E W t;by_cases f:k<v.m.length
  ·have O:(k:Int)<v.m.length:=by omega
   obtain⟨g,o,cap,kd,Y,st,a1,b1,M,P,q1,q2,q3,q4,q5,G⟩:=H.o.at_m l.o k f;simp only [Value.slice.injEq] at M;obtain⟨rfl,-,rfl⟩:=M;obtain⟨F,K,L,p2,U,I,rfl,rfl⟩:=G.sl;have q:v.m[k].1.size≤400000:=Gl.o _ (List.getElem_mem f);have y:Hid ((v.m.take (k+1)).map (fun p=>p.1)=(v.m.take k).map (fun p=>p.1)++[v.m[k].1]):=qI (xP _ _ _ f);have j:Hid (ZR ((v.m.take k).map (fun p=>p.1)) ((v.m.drop k).map (fun p=>p.1))=(!(((v.m.take k).map (fun p=>p.1)).any (fun x=>decide (x=v.m[k].1)))&&zw v.m[k].1&&ZR ((v.m.take k).map (fun p=>p.1)++[v.m[k].1]) ((v.m.drop (k+1)).map (fun p=>p.1)))):=qI (by
    conv=>lhs;rw [List.drop_eq_getElem_cons f]
    rfl)
   have aa:((v.m.take k).map (fun p=>p.1)).length≤20000:=by rw [List.length_map,List.length_take];omega
   clear G;revert P q y j;generalize v.m[k].1=key;intro P q y j;have s:=qI ((zb.refl [] wr).alloc (.cells #[.string key,.int .i64 kd,.int .i64 Y,.string st,.slice F K L,.slice p2 U I] 41));have d:=(X.o.k0 s.o).look key Ws;have Gs:=qI (pbox_at (w:=wr) rfl key kd Y st (.slice F K L) (.slice p2 U I) 41);have u:=qI (zbt (HT.o.k0 (l.o.then s.o)) key Ws);revert d j u;generalize ((v.m.take k).map (fun p=>p.1)).any (fun x=>decide (x=key))=r;generalize zw key=ok;intro j d u;cases r with
   | true=>go_wp2;go_ret;rw [← D.o,← z.o,j.o];exact⟨Wz,l.o.then s.o⟩
   | false=>
    cases ok with
    | false=>go_wp2_with (go_at_call 242;refine u.o.mono ?_;rintro e w2 ⟨rfl,a⟩);go_ret;rw [← D.o,← z.o,j.o];exact⟨Wz,(l.o.then s.o).then a⟩
    | true=>
     go_wp2_with (go_at_call 242;refine u.o.mono ?_;rintro e w2 ⟨rfl,a⟩;have Q:=qI (s.o.then a);obtain⟨y0,-,-,-,-,-⟩:=Gs.o.k0 a;obtain⟨w3,hput,hs3,hk3⟩:=(X.o.k0 Q.o).put key Ws Ws;have Gt:=qI hs3;have Gj:=qI hk3;clear a hs3 hk3);case roundEnd=>
      refine⟨⟨k+1,by go_num,Ws,?_,?_,?_⟩,by simp [intOf];omega⟩;·rw [y.o];exact Gt.o
      ·rw [← z.o,j.o,y.o];simp
      ·exact (l.o.then Q.o).trans Gj.o (fun i R=>by simp at R;subst R;exact .inr (XA))
  ·obtain rfl:k=v.m.length:=by omega
   go_wp2;go_ret;rw [← D.o,← z.o,List.drop_length];exact⟨rfl,l.o⟩
section
variable {P : Program} {ops : Array Oper} {Q : Exit → Act → World → Prop} {md : Region.Mode} {S : World → Prop} {L : Nat}
theorem Qd {O:Array Oper}{i j:Nat}{h k:Oper}{d:Nat}{b:Array Bool}{a:Act}{w:World}(s:O=ops)(r:ops[i]? = some h)(t:ops[j]? = some k)(p:Region.ready md ops b=[i,j])(e:Region.wanted h (yielded ops a.tmps)=true)(l:Region.wanted k (yielded ops a.tmps)=true)(u:∀ K:Act→World→Prop,(∀ a' w',(i=L∨S w')→zS P md O Q S L d (b.setIfInBounds i true) a' w'→K a' w')→h.wp P a w K Q)(h2:∀ K:Act→World→Prop,(∀ a' w',(j=L∨S w')→zS P md O Q S L d (b.setIfInBounds j true) a' w'→K a' w')→k.wp P a w K Q):zS P md O Q S L (d+1) b a w:=by
 subst s;refine⟨fun q=>(by rw [p] at q;cases q),?_⟩;rw [p];intro m hm;simp only [List.mem_cons,List.not_mem_nil,or_false] at hm;rcases hm with rfl | rfl
 ·unfold wpOp;rw [r];simp only;rw [if_pos e];exact .inl (u _ fun a' w' f n=>⟨f,n⟩)
 ·unfold wpOp;rw [t];simp only;rw [if_pos l];exact .inl (h2 _ fun a' w' f n=>⟨f,n⟩)
end
theorem slc_head {P:Program}(T:xG P t e size bytes z){w:World}(h:Slc w size v n xs)(k:Nat)(d:k≤n) : ∃ a c,(∀ W,(Instr.slice t v none (some (.int .i64 k)) none).run P W = .ok (.slice a k c) W)∧Slc w size (.slice a k c) k (xs.take (k*size)):=by
 obtain⟨f,-,-,h3,b,-⟩:=h.cut T 0 k (XB) d;obtain⟨a,c,rfl,-,-⟩:=b.form;exact⟨a,c,h3 rfl,by simpa using b⟩
theorem slc_tail {P:Program}(T:xG P t e size bytes z){w:World}(h:Slc w size v n xs)(k:Nat)(d:k≤n) : ∃ a c,(∀ W,(Instr.slice t v (some (.int .i64 k)) none none).run P W = .ok (.slice a (n-k) c) W)∧Slc w size (.slice a (n-k) c) (n-k) (xs.drop (k*size)):=by
 obtain⟨i,-,h3,-,b,-⟩:=h.cut T k n d (XA);obtain⟨a,c,rfl,-,-⟩:=b.form;refine⟨a,c,h3 rfl,?_⟩;have f:List.take ((n-k)*size) (List.drop (k*size) xs)=List.drop (k*size) xs:=List.take_of_length_le (by rw [List.length_drop,h.1,Nat.sub_mul];exact XA);rw [f] at b;exact b
theorem J1:∀ (l:List (ByteArray×List Value)) (k:Nat),(∀ p,p∈l→p.2.length=5)→(zZ l).take (k*6)=zZ (l.take k)
 | _,0,_=>by simp [zZ]
 | [],k+1,_=>by simp [zZ]
 | p::t,k+1,h=>by
  have hp:(yj p).length=6:=by simp [yj,h p (List.mem_cons_self ..)]
  rw [List.take_succ_cons];show List.take ((k+1)*6) (yj p++zZ t)=yj p++zZ (t.take k);rw [List.take_append,List.take_of_length_le Ws,hp,show (k+1)*6-6=k*6 by omega,J1 t k (fun q a=>h q (List.mem_cons_of_mem _ a))]
theorem JY:∀ (l:List (ByteArray×List Value)) (k:Nat),(∀ p,p∈l→p.2.length=5)→(zZ l).drop (k*6)=zZ (l.drop k)
 | _,0,_=>by simp
 | [],k+1,_=>by simp [zZ]
 | p::t,k+1,h=>by
  have hp:(yj p).length=6:=by simp [yj,h p (List.mem_cons_self ..)]
  rw [List.drop_succ_cons];show List.drop ((k+1)*6) (yj p++zZ t)=zZ (t.drop k);rw [List.drop_append,List.drop_eq_nil_of_le Ws,hp,show (k+1)*6-6=k*6 by omega,JY t k (fun q a=>h q (List.mem_cons_of_mem _ a)),List.nil_append]
theorem slc_six {w:World}{x:Value}(h:Slc w 6 x m (zZ ms))(h6:∀ c,c∈ms.map yj→c.length=6)(d:j<ms.length) : ∃ g o cap,x = .slice (some ⟨g,o,none⟩) m cap∧w.cell? ⟨g,o+j*6,none⟩=some (.string ms[j].1):=by
 obtain⟨f,h⟩:=h;have b:=bX (ms.map yj) h6;rw [← yB,List.length_map] at b;rcases h with ⟨rfl,e⟩ | ⟨e,_⟩ | ⟨g,o,cap,rfl,-,-,a⟩;·omega
 ·omega
 ·refine⟨g,o,cap,rfl,a.cells (j*6) _ ?_⟩;have:=kK (ms.map yj) j 0 h6 (by simpa using d) Ws;rw [← yB,Nat.add_zero] at this;rw [this];simp [yj]
theorem nodup_right {v:VS (V n)}(h:zo (n+1) v=true):(v.m.map (fun p=>p.1)).Nodup:=by
 rcases jM (jR h) with g | g | g | g | g | g;·rw [g.2.2.2.2];simp
 ·rw [g.2.2.2.2];simp
 ·rw [g.2.2.2.2];simp
 ·rw [g.2.2.2.2];simp
 ·rw [g.2.2.2];simp
 ·have a:=g.2.2.2.2;unfold yV at a;rw [Bool.and_eq_true] at a;simpa using a.2
theorem QC (a b:ByteArray):Op.bytesLess a.toList b.toList=ltB a b:=by
 have e:∀ (l m:List UInt8),Op.bytesLess l m=decide (l<m):=by
  intro l;induction l with
  | nil=>intro m;cases m <;> simp [Op.bytesLess]
  | cons a x ih=>
   intro m;cases m with
   | nil=>simp [Op.bytesLess]
   | cons b y=>unfold Op.bytesLess;rw [ih,Bool.eq_iff_iff];simp only [Bool.or_eq_true,Bool.and_eq_true,decide_eq_true_eq,beq_iff_eq,List.cons_lt_cons_iff]
 rw [ByteArray.toList_eq,ByteArray.toList_eq,e];rfl
theorem gtr_yes {a b:ByteArray}(h:ltB b a=true):Op.bytesLess a.toList b.toList=false∧(a.toList == b.toList)=false:=by
 have d:ltB a b=false:=by
  cases h2:ltB a b with
  | false=>rfl
  | true=>exact absurd h2 (ltB_asymm h)
 exact⟨by rw [QC];exact d,(jS (fun e=>by subst e;rw [h] at d;cases d)).1⟩
theorem gtr_no {a b:ByteArray}(h:ltB b a=false):(!Op.bytesLess a.toList b.toList && !a.toList == b.toList)=false:=by
 rw [QC];cases h2:ltB a b with
 | true=>rfl
 | false=>have e:=ltB_none (a:=a) (b:=b) (by rw [h2];decide) (by rw [h];decide);subst e;rw [(vu rfl).1];rfl
theorem zM.take {α β:Type}{R:α→β→Prop}{xs:List α}{ys:List β}(h:zM R xs ys)(k:Nat):zM R (xs.take k) (ys.take k):=by
 refine⟨by rw [List.length_take,List.length_take,h.1],fun j x y a b=>?_⟩;rw [List.getElem?_take] at a b;split at a;·rename_i d;rw [if_pos d] at b;exact h.2 j x y a b
 ·cases a
theorem zM.drop {α β:Type}{R:α→β→Prop}{xs:List α}{ys:List β}(h:zM R xs ys)(k:Nat):zM R (xs.drop k) (ys.drop k):=by
 refine⟨by rw [List.length_drop,List.length_drop,h.1],fun j x y a b=>?_⟩;rw [List.getElem?_drop] at a b;exact h.2 (k+j) x y a b
theorem zbO {α:Type}{R:List Value→α→Prop}{xs:List (ByteArray×List Value)}{ys:List (ByteArray×α)}(h:zM (bh R) xs ys)(d:∀ c y,R c y→∀ u∈c,u.oneCell'=true):∀ u∈zZ xs,u.oneCell'=true:=by
 intro u a;unfold zZ at a;rw [List.mem_flatMap] at a;obtain⟨p,hp,a⟩:=a;obtain⟨y,-,b⟩:=h.mem_left hp;rcases List.mem_cons.1 a with rfl | a;·rfl
 ·exact d _ _ b.2 u a
theorem kept_cell (w:World)(p o:Nat)(v:Value):zb [p] w (w.setCell ⟨p,o,none⟩ v):=(zb.refl [p] w).setCell (p:=⟨p,o,none⟩) (.inl Wz) v
structure InsL {n:Nat}(W:World)(b3:Nat)(v:VS (V n))(k:Nat)(wr:World)(vl:Value)(lcs:List (List Value)):Prop where
 blk:wr.heap[b3]? = some (.cells (kh v.kind v.num v.s vl (.slice none 0 0)) 25 (0,0))
 row:wr.ownsRow W.heap.size 25 5 vl k lcs.flatten
 all:zM (Rep n (fun g=>W.heap.size≤g∧vl.ownBlock≠some g) wr) lcs ((v.l.take k).map (zI n))
 kept:zb [b3] W wr
structure InsM {n:Nat}(W:World)(b3:Nat)(v:VS (V n))(vl:Value)(k:Nat)(wr:World)(vm:Value)(mcs:List (ByteArray×List Value))(ms:List (ByteArray×V n)):Prop where
 blk:wr.heap[b3]? = some (.cells (kh v.kind v.num v.s vl vm) 25 (0,0))
 row:wr.ownsRow W.heap.size 41 6 vm ms.length (zZ mcs)
 all:zM (bh (Rep n (fun g=>W.heap.size≤g∧vm.ownBlock≠some g) wr)) mcs ms
 kept:zb [b3] W wr
 ord:ms.Pairwise (fun x y=>leK x y=true)
 perm:ms.Perm ((v.m.take k).map (qj (zI n)))
 lim:ms.length=k
def PSt (At:Nat→Nat→Int→Prop)(S:ByteArray)(B:Nat)(x:Sum Int (List UInt8×Nat)):Prop:=
 ∃ (i c:Nat) (e:Int),At i c e∧i≤S.size∧c≤B∧(match x with
  | .inl e'=>e=e'∧0<e∧e≤1000
  | .inr (r,c')=>e=0∧S.data.toList.drop i=r∧c=c')
def PAt (w:World)(p:Nat)(S:ByteArray)(i c:Nat)(e:Int):Prop:=w.heap[p]? = some (.cells #[.string S,.int .i64 i,.int .i64 c,.int .i64 e] 109 (0,0))
def PS (w:World)(p:Nat)(S:ByteArray)(B:Nat)(x:Sum Int (List UInt8×Nat)):Prop:=PSt (PAt w p S) S B x
section
variable {w w' : World} {p B : Nat} {S : ByteArray} {x : Sum Int (List UInt8 × Nat)} {X : List Nat}
theorem PS.kept (h:PS w p S B x)(k:zb X w w')(hp:p ∉ X):PS w' p S B x:=by
 obtain⟨i,c,e,a,h2⟩:=h;exact⟨i,c,e,k.heap a hp,h2⟩
theorem PS.k0 (h:PS w p S B x)(k:zb [] w w'):PS w' p S B x:=h.kept k Wz
theorem PS.lt (h:PS w p S B x):p<w.heap.size:=by obtain⟨i,c,e,a,h2⟩:=h;exact lt_of_block a
theorem PAt.cells {i c:Nat}{e:Int}(h:PAt w p S i c e):w.cell? ⟨p,0,none⟩=some (.string S)∧w.cell? ⟨p,1,none⟩=some (.int .i64 i)∧w.cell? ⟨p,2,none⟩=some (.int .i64 c)∧w.cell? ⟨p,3,none⟩=some (.int .i64 e)∧∀ o,w.frozen? ⟨p,o,none⟩=false:=
 ⟨za (o:=0) h rfl,za (o:=1) h rfl,za (o:=2) h rfl,za (o:=3) h rfl,fun o=>zh h⟩
theorem PAt.set1 {i c:Nat}{e:Int}(h:PAt w p S i c e)(k:Nat):PAt (w.setCell ⟨p,1,none⟩ (.int .i64 (k:Nat))) p S k c e:=zd h rfl
theorem PAt.set2 {i c:Nat}{e:Int}(h:PAt w p S i c e)(k:Nat):PAt (w.setCell ⟨p,2,none⟩ (.int .i64 (k:Nat))) p S i k e:=zd h rfl
theorem PAt.set3 {i c:Nat}{e:Int}(h:PAt w p S i c e)(k:Int):PAt (w.setCell ⟨p,3,none⟩ (.int .i64 k)) p S i c k:=zd h rfl
theorem zW (w:World)(p o:Nat)(v:Value):zb [p] w (w.setCell ⟨p,o,none⟩ v):=(zb.refl [p] w).setCell (p:=⟨p,o,none⟩) (.inl Wz) v
theorem PS.good {i c:Nat}(h:PAt w p S i c 0)(a:i≤S.size)(hc:c≤B):PS w p S B (.inr (S.data.toList.drop i,c)):=⟨i,c,0,h,a,hc,rfl,rfl,rfl⟩
theorem PS.bad {i c:Nat}{e:Int}(h:PAt w p S i c e)(a:i≤S.size)(hc:c≤B)(b:0<e)(d:e≤1000):PS w p S B (.inl e):=⟨i,c,e,h,a,hc,rfl,b,d⟩
theorem PS.open_ok {r:List UInt8}{c:Nat}(h:PS w p S B (.inr (r,c))):∃ i,PAt w p S i c 0∧i≤S.size∧c≤B∧S.data.toList.drop i=r:=by
 obtain⟨i,d,e,b,h2,h3,rfl,a,rfl⟩:=h;exact⟨i,b,h2,h3,a⟩
theorem PS.open_bad {e:Int}(h:PS w p S B (.inl e)):∃ i c:Nat,PAt w p S i c e∧i≤S.size∧c≤B∧0<e∧e≤1000:=by
 obtain⟨i,b,e',d,h2,h3,rfl,a,h6⟩:=h;exact⟨i,b,d,h2,h3,a,h6⟩
end
end Go.Proofs.YtjccecajigmfkaaGreatDoor

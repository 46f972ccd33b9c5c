/- Parts of one proof, merged: XShS XKM XKE XSn XKH XVC XKT XVM XVO XSp XVA XVI XVT XPA XPX XVH XVJ. -/
import Derived.Shelf.SlSortCmp.WholeK
import Derived.Ground.SlsfProg
import Derived.Test.YtjccecajigmfkaaGreatDoorSdH
import Derived.Test.YtjccecajigmfkaaGreatDoorSdG
import Derived.Lib.MapU
import Derived.Lib.SlTrimSet
import Derived.Lib.Bytealg
import Derived.Laws.Cover1
set_option linter.all false
set_option maxHeartbeats 12800000
set_option maxRecDepth 10000
namespace Go.Proofs
open Go.Shelf
def Tryz.shSort_ren:Go.Shelf.Ren:=⟨fun | 6=>120 | 15=>169 | 14=>168 | 28=>212 | 29=>213 | 20=>204 | 21=>205 | 22=>206 | 23=>207 | 24=>208 | 25=>209 | 26=>210 | 27=>211 | 46=>244 | 47=>245 | 48=>246 | 49=>247 | 50=>248 | 57=>259 | n=>n,fun | 22=>23 | 24=>41 | 25=>171 | 3=>3 | 39=>145 | 0=>0 | 53=>220 | 55=>250 | 4=>4 | 46=>242 | 45=>241 | 50=>246 | 5=>5 | 9=>9 | 66=>270 | 70=>274 | 76=>286 | 77=>209 | n=>n,fun | n=>n⟩
theorem Tryz.shSort:Go.Proofs.SlLaysF0.n6 prog Tryz.shSort_ren:={
 mixed:=Wr
 f6:=⟨Tryz.f120.name,Wo,func120.trans Wr⟩
 f14:=⟨Tryz.f168.name,Wo,func168.trans Wr⟩
 f15:=func169.trans Wr
 f20:=⟨Tryz.f204.name,Wo,func204.trans Wr⟩
 f21:=⟨Tryz.f205.name,Wo,func205.trans Wr⟩
 f22:=⟨Tryz.f206.name,Wo,func206.trans Wr⟩
 f23:=⟨Tryz.f207.name,Wo,func207.trans Wr⟩
 f24:=⟨Tryz.f208.name,Wo,func208.trans Wr⟩
 f25:=⟨Tryz.f209.name,Wo,func209.trans Wr⟩
 f26:=⟨Tryz.f210.name,Wo,func210.trans Wr⟩
 f27:=⟨Tryz.f211.name,Wo,func211.trans Wr⟩
 f28:=func212.trans Wr
 f29:=func213.trans Wr
 f46:=⟨Tryz.f244.name,Wo,func244.trans Wr⟩
 f47:=func245.trans Wr
 f48:=func246.trans Wr
 f49:=⟨Tryz.f247.name,Wo,func247.trans Wr⟩
 f50:=⟨Tryz.f248.name,Wo,func248.trans Wr⟩
 f57:=⟨Tryz.f259.name,Wo,func259.trans Wr⟩
 t0:=underlying0
 a0:=isAgg0
 z0:=sizeOf0
 v0:=zeroValue0
 t3:=underlying3
 a3:=isAgg3
 z3:=sizeOf3
 v3:=zeroValue3
 t4:=underlying4
 a4:=isAgg4
 z4:=sizeOf4
 v4:=zeroValue4
 t5:=underlying5
 a5:=isAgg5
 z5:=sizeOf5
 v5:=zeroValue5
 t9:=underlying9
 a9:=isAgg9
 z9:=sizeOf9
 v9:=zeroValue9
 t22:=underlying23
 a22:=isAgg23
 z22:=sizeOf23
 v22:=zeroValue23
 t25:=underlying171
 a25:=isAgg171
 z25:=sizeOf171
 v25:=zeroValue171
 t39:=underlying145
 a39:=isAgg145
 z39:=sizeOf145
 v39:=zeroValue145
 t45:=underlying241
 a45:=isAgg241
 z45:=sizeOf241
 v45:=zeroValue241
 t46:=underlying242
 a46:=isAgg242
 z46:=sizeOf242
 v46:=zeroValue242
 t50:=underlying246
 a50:=isAgg246
 z50:=sizeOf246
 v50:=zeroValue246
 t53:=underlying220
 a53:=isAgg220
 z53:=sizeOf220
 v53:=zeroValue220
 t55:=underlying250
 a55:=isAgg250
 z55:=sizeOf250
 v55:=zeroValue250
 t66:=underlying270
 a66:=isAgg270
 z66:=sizeOf270
 v66:=zeroValue270
 t70:=underlying274
 a70:=isAgg274
 z70:=sizeOf274
 v70:=zeroValue274
 t76:=underlying286
 a76:=isAgg286
 z76:=sizeOf286
 v76:=zeroValue286
 t77:=underlying209
 a77:=isAgg209
 z77:=sizeOf209
 v77:=zeroValue209 }
end Go.Proofs
namespace Go.Proofs.YtjccecajigmfkaaGreatDoor
open Go.Proofs.Tryz
open Go.RowKit
open Go.Sort (grow flatK size_flatK get_flatK putRowK HoldsK)
variable {J:World→Prop}{T:Nat}{W:World}{b b2 b3 d e:Nat}{it:Nat→List UInt8}{k:Nat}{l:List UInt8}{m:Int}{n:Nat}{seen:List ByteArray}{size:Nat}{t:List UInt8}
theorem KP:∀ (l m:List UInt8),Op.bytesLess l m=decide (l<m)
 | [],[]=>by simp [Op.bytesLess]
 | _::_,[]=>by simp [Op.bytesLess]
 | [],_::_=>by simp [Op.bytesLess]
 | a::x,b::y=>by
  have ih:=KP x y
  unfold Op.bytesLess
  rw [ih,Bool.eq_iff_iff]
  simp only [uW,XR,Xa,beq_iff_eq,List.cons_lt_cons_iff]
theorem zL.perm {α β:Type}{R:α→β→Prop}:∀ {xs xs':List α}{ys:List β},zL R xs ys→xs'.Perm xs→∃ ys',ys'.Perm ys∧zL R xs' ys':=by
 intro xs xs' ys h hp
 induction hp generalizing ys with
 | nil=>exact⟨ys,List.Perm.refl _,h⟩
 | cons x _ ih=>
  match ys,h with
  | [],h=>exact absurd h.1 Wz
  | y::ys,h=>
   obtain⟨zs,d,h2⟩:=ih (ys:=ys) ⟨by simpa using h.1,fun j a b f e=>h.2 (j+1) a b (by simpa using f) (by simpa using e)⟩
   exact⟨y::zs,d.cons y,h2.cons (h.2 0 _ _ rfl rfl)⟩
 | swap x z l=>
  match ys,h with
  | [],h=>exact absurd h.1 Wz
  | [_],h=>exact absurd h.1 Wz
  | y1::y2::ys,h=>
   refine⟨y2::y1::ys,List.Perm.swap ..,?_⟩
   have m:zL R l ys:=⟨by simpa using h.1,fun j a b f e=>h.2 (j+2) a b (by simpa using f) (by simpa using e)⟩
   exact zL.cons (h.2 1 _ _ rfl rfl) (zL.cons (h.2 0 _ _ rfl rfl) m)
 | trans _ _ ih1 ih2=>
  obtain⟨n,i,d⟩:=ih2 h
  obtain⟨k,p2,h2⟩:=ih1 d
  exact⟨k,p2.trans i,h2⟩
theorem flat_set (a:List (List Value))(i:Nat)(c:List Value)(h:∀ x,x∈a→x.length=size)(hc:c.length=size)(j:Nat) : (a.set i c).flatten[j]? = if i<a.length∧i*size≤j∧j<i*size+size then c[j-i*size]? else a.flatten[j]?:=by
 induction a generalizing i j with
 | nil=>simp
 | cons x a ih=>
  have d:=h x (Xp ..)
  cases i with
  | zero=>
   simp only [List.set_cons_zero,Xu,Nat.zero_mul,Nat.zero_le,true_and,Xd,Nat.sub_zero,XP,Nat.zero_lt_succ]
   by_cases b:j<size
   ·rw [XK b,Xz Ws]
   ·rw [XJ b,Xx Ws,Xx Ws,hc,d]
  | succ i=>
   simp only [List.set_cons_succ,Xu,XP]
   have e:(i+1)*size=i*size+size:=by rw [Nat.add_mul,Nat.one_mul]
   by_cases b:j<size
   ·rw [Xz Ws,Xz Ws,XJ Ws]
   ·rw [Xx Ws,Xx Ws,ih i (fun y f=>h y (Xj _ f)),d,e]
    by_cases q:i<a.length∧i*size≤j-size∧j-size<i*size+size
    ·rw [XK q,XK Ws,show j-(i*size+size)=j-size-i*size by omega]
    ·rw [XJ q,XJ Ws]
theorem kf {w:World}{base:Nat}{v:Value}{k:List (List Value)}{i g:Nat}{c:List Value}(h:w.ownsRow base e size v n k.flatten)(f:∀ x,x∈k→x.length=size)(hv:v.ownBlock=some g)(z:k.length=n)(K:i<n)(hc:c.length=size) : (w.setCells g (i*size) c).ownsRow base e size v n (k.set i c).flatten∧w.there g (i*size) size∧zb [g] w (w.setCells g (i*size) c):=by
 obtain⟨J,h2⟩:=h
 rcases h2 with ⟨rfl,_⟩ | ⟨r,cap,b,rfl,C,t,a,hm,E,A⟩
 ·simp [Value.ownBlock] at hv
 ·simp [Value.ownBlock] at hv
  subst hv
  have y:=YT k f
  have u:(i+1)*size≤cap*size:=uY size Ws
  rw [Nat.add_mul,Nat.one_mul] at u
  have B:n*size≤cap*size:=uY size a
  have p:(i+1)*size≤n*size:=uY size Ws
  rw [Nat.add_mul,Nat.one_mul] at p
  obtain⟨l,D,G,F⟩:=qN r c (i*size) w b t
  refine⟨⟨?_,.inr ⟨r,cap,l,rfl,C,D,a,hm,by rw [G];exact E,?_⟩⟩,?_,yO _ _ _ _⟩
  ·rw [YT (size:=size) _ (fun x s=>by
    rcases List.mem_or_eq_of_mem_set s with s | rfl
    ·exact f x s
    ·exact hc),List.length_set,z]
  ·apply VL
   intro j
   rw [flat_set k i c f hc,X9]
   by_cases m:j<n*size
   ·rw [XK m,uP,F j Ws,hc]
    by_cases q:i*size≤j∧j<i*size+size
    ·rw [XK q,XK ⟨Ws,q⟩]
    ·rw [XJ q,XJ (fun H=>q H.2),← A,X9,XK m,uP]
   ·rw [XJ m,XJ Ws,uQ (by rw [y,z];omega)]
  ·intro j m
   have I:i*size+j<b.size:=Ws
   have d:w.cell? ⟨r,i*size+j,none⟩=some b[i*size+j]:=za t (by simp [I])
   exact⟨by rw [d];rfl,zh t⟩
section
variable {α : Type} [Inhabited α]
theorem sort_world (enc:α→List Value)(k:Nat){w:World}{g e:Nat}{a:Array Value}(b:w.heap[g]? = some (.cells a e (0,0)))(m:Nat)(d:Array α)(os:Array Obj)(p:d.size*k≤a.size) : zb [g] w (sortWorldK enc k w g 0 m d os)∧∃ cur',(sortWorldK enc k w g 0 m d os).heap[g]? = some (.cells cur' e (0,0))∧cur'.size=a.size∧∀ t,t<a.size→cur'[t]? = if t<d.size*k then some (enc d[t/k]!)[t%k]! else a[t]?:=by
 have i:=lt_of_block b
 have f:∀ j,(sortWorldK enc k w g 0 m d os).heap[j]? = if j<w.heap.size then (w.heap.modify g (Sort.onCells (Sort.putCells id 0 (flatK enc k d))))[j]? else os[j-w.heap.size]?:=by
  intro j
  show ((w.heap.modify g (Sort.onCells (Sort.putCells id 0 (flatK enc k d))))++os)[j]? = _
  rw [Array.getElem?_append,Array.size_modify]
 refine⟨⟨rfl,rfl,rfl,?_,?_⟩,Sort.putCells id 0 (flatK enc k d) a,?_,by simp [Sort.putCells],?_⟩
 ·show w.heap.size≤((w.heap.modify g (Sort.onCells (Sort.putCells id 0 (flatK enc k d))))++os).size
  rw [Array.size_append,Array.size_modify];omega
 ·intro j l n
  rw [f,XK l,VF,XJ (by simp at n;omega)]
 ·rw [f,XK i,VF,XK rfl,b]
  rfl
 ·intro t h
  simp only [Sort.putCells,Array.getElem?_mapIdx,Nat.zero_le,true_and,Xd,Nat.sub_zero,size_flatK,id]
  rw [uh h]
  by_cases q:t<d.size*k
  ·rw [XK q,uv,XK q,get_flatK enc k d t q]
  ·rw [XJ q,uv,XJ q]
end
def Zc {α:Type}(v:VS α)(m:Int)(s:ByteArray)(l k:Nat):Prop:=
 (v.kind=1∧m=0∧s=⟨#[]⟩∧l=0∧k=0)∨(v.kind=2∧(v.num=0∨v.num=1)∧m=v.num∧s=⟨#[]⟩∧l=0∧k=0) ∨
 (v.kind=3∧(-9007199254740991≤v.num∧v.num≤9007199254740991)∧m=v.num∧s=⟨#[]⟩∧l=0∧k=0)∨(v.kind=4∧zv v.s=true∧m=0∧s=v.s∧l=0∧k=0) ∨
 (v.kind=5∧m=0∧s=⟨#[]⟩∧l=v.l.length∧k=0)∨(v.kind=6∧m=0∧s=⟨#[]⟩∧l=0∧k=v.m.length)
theorem kK {α:Type}(l:List α):l.isEmpty=decide (l.length=0):=by cases l <;> simp
theorem bare_own {α:Type}{v:VS α}{s:ByteArray}{l:Nat}(h:Zc v m s l k) : zy v=(decide (v.num=m)&&decide (v.s=s)&&decide (v.l.length=l)&&decide (v.m.length=k)&&(if v.kind=6 then xe v.m else true)):=by
 unfold zy ZC
 simp only [kK]
 rcases h with ⟨a,rfl,rfl,rfl,rfl⟩ | ⟨a,h2,rfl,rfl,rfl,rfl⟩ | ⟨a,h2,rfl,rfl,rfl,rfl⟩ | ⟨a,h2,rfl,rfl,rfl,rfl⟩ | ⟨a,rfl,rfl,rfl,rfl⟩ | ⟨a,rfl,rfl,rfl,rfl⟩
 ·rw [a];simp
 ·rw [a];simp [h2]
 ·rw [a];simp [h2]
 ·rw [a];simp [h2,Bool.and_assoc]
 ·rw [a];simp
 ·rw [a]
  simp only [XJ (show ¬ ((6:Int)=1) by decide),XJ (show ¬ ((6:Int)=2) by decide),XJ (show ¬ ((6:Int)=3) by decide),XJ (show ¬ ((6:Int)=4) by decide),XJ (show ¬ ((6:Int)=5) by decide),XK]
  cases xe v.m <;> cases decide (v.num=0) <;> cases decide (v.s=⟨#[]⟩) <;> cases decide (v.l.length=0) <;> simp
def kC {α:Type}(r:α→Bool):List ByteArray→List (ByteArray×α)→Bool
 | _,[]=>true
 | seen,p::t=>zv p.1&&r p.2 && !(seen.any (fun k=>decide (k=p.1)))&&kC r (seen++[p.1]) t
theorem zbv {α:Type}(r:α→Bool):∀ (m:List (ByteArray×α)) (seen:List ByteArray),seen.Nodup →
  (kC r seen m=true↔(∀ p,p∈m→zv p.1=true∧r p.2=true)∧(seen++m.map (fun p=>p.1)).Nodup)
 | [],seen,hs=>by simp [kC,hs]
 | p::t,seen,hs=>by
  unfold kC
  rw [XR,XR,XR]
  by_cases hk:p.1∈seen
  ·have h1:(seen.any (fun k=>decide (k=p.1)))=true:=List.any_eq_true.2 ⟨p.1,hk,Wz⟩
   rw [h1]
   constructor
   ·rintro ⟨⟨_,h⟩,_⟩;simp at h
   ·rintro ⟨_,h⟩
    exact absurd hk (fun q=>by
     have:=(uz.1 h).2.2 p.1 q p.1 Wz
     exact this rfl)
  ·have h1:(seen.any (fun k=>decide (k=p.1)))=false:=by
    rw [List.any_eq_false]
    intro x l e
    exact hk (by rw [decide_eq_true_iff] at e;rw [← e];exact l)
   have d:(seen++[p.1]).Nodup:=by
    refine uz.2 ⟨hs,Wz,?_⟩
    intro a j b i e
    simp at i
    exact hk (by rw [← i,← e];exact j)
   rw [h1,zbv r t (seen++[p.1]) d]
   simp only [Xf,Xv,uU,X8,Bool.not_false,and_true,XY,forall_eq_or_imp]
   constructor
   ·rintro ⟨h2,h3,f⟩;exact⟨⟨h2,h3⟩,f⟩
   ·rintro ⟨⟨h2,h3⟩,f⟩;exact⟨h2,h3,f⟩
theorem pairsOk_all {α:Type}(r:α→Bool)(m:List (ByteArray×α)):kC r [] m=(xe m&&m.all (fun p=>r p.2)):=by
 rw [Bool.eq_iff_iff,zbv r m [] VC,XR]
 unfold xe
 rw [XR,Xk,Xk,decide_eq_true_iff,X8]
 constructor
 ·rintro ⟨a,h2⟩;exact⟨⟨fun p hp=>(a p hp).1,h2⟩,fun p hp=>(a p hp).2⟩
 ·rintro ⟨⟨a,h2⟩,h3⟩;exact⟨fun p hp=>⟨a p hp,h3 p hp⟩,h2⟩
theorem right_bare {v:VS (V n)}{s:ByteArray}{l:Nat}(h:Zc v m s l k) : zn (n+1) v=(decide (v.num=m)&&decide (v.s=s)&&decide (v.l.length=l)&&decide (v.m.length=k)&&v.l.all (zn n)&&kC (zn n) [] v.m):=by
 have e:zn (n+1) v=(zy v&&v.kids.all (zn n)):=rfl
 have b:v.kids.all (zn n)=(v.l.all (zn n)&&v.m.all (fun p=>zn n p.2)):=by
  unfold VS.kids
  rw [VH,List.all_map]
  rfl
 rw [e,bare_own h,b,pairsOk_all]
 by_cases h6:v.kind=6
 ·rw [XK h6]
  cases xe v.m <;> cases v.l.all (zn n) <;> cases v.m.all (fun p=>zn n p.2) <;> simp
 ·rw [XJ h6]
  have a:k=0:=by
   rcases h with h | h | h | h | h | h
   ·exact h.2.2.2.2
   ·exact h.2.2.2.2.2
   ·exact h.2.2.2.2.2
   ·exact h.2.2.2.2.2
   ·exact h.2.2.2.2
   ·exact absurd h.1 h6
  subst a
  by_cases hm:v.m.length=0
  ·have:=Xh hm
   rw [this]
   cases v.l.all (zn n) <;> simp [xe]
  ·simp [hm]
open Go.Maps (Keyed)
theorem keyStr:Keyed prog 9:=Maps.string_keyed underlying9
theorem sameStr (x y:List UInt8):(Lit.string x).sameKey (.string y)=decide (x=y):=by
 by_cases h:x=y <;> simp [Lit.sameKey,h]
theorem keyOfStr (s:ByteArray)(a:s.size≤281474976710656):keyOf prog 9 (.string s)=some (.string s.data.toList):=Go.WideMaps.keyOf_string_mk (P:=prog) underlying9 (by simp only [maxLen];omega)
def kt (w:World)(b:Nat)(seen:List ByteArray):Prop:=
 ∃ n M,bl prog w 9 b n M∧n≤seen.length∧∀ s:ByteArray,M (.string s.data.toList)=if seen.any (fun k=>decide (k=s))=true then some (Value.bool true) else none
theorem seen_new {w:World}(a:w.heap.size=b):kt (w.alloc (.map #[] 0)) b []:=by
 subst a
 exact⟨0,_,mapAt_made _ w _,XA,fun s=>by simp⟩
theorem kt.kept {w w':World}{b:Nat}{seen:List ByteArray}{X:List Nat}(h:kt w b seen)(k:zb X w w')(d:b ∉ X):kt w' b seen:=by
 obtain⟨n,M,a,h2,h3⟩:=h
 exact⟨n,M,a.kept k d,h2,h3⟩
theorem kt.k0 {w w':World}(h:kt w b seen)(k:zb [] w w'):kt w' b seen:=h.kept k Wz
theorem kt.look {w:World}(h:kt w b seen)(s:ByteArray)(e:s.size≤281474976710656) : (Instr.lookup 255 (.map (some b)) (.string s) false).run prog w = .ok (.bool (seen.any (fun k=>decide (k=s)))) w:=by
 obtain⟨n,M,a,h2,h3⟩:=h
 have d:=(a.lookup keyStr underlying255 (z:=.bool false) (zeroValue4 w) (keyOfStr s e)).2
 rw [d,h3 s]
 cases seen.any (fun k=>decide (k=s)) <;> rfl
theorem kt.put {w:World}(h:kt w b seen)(s:ByteArray)(l:s.size≤281474976710656)(p:seen.length≤100000000) : ∃ w',(Instr.mapUpdate 255 (.map (some b)) (.string s) (.bool true)).run prog w = .ok () w'∧kt w' b (seen++[s])∧zb [b] w w':=by
 obtain⟨n,M,a,h2,h3⟩:=h
 obtain⟨w',f,d,j,_⟩:=a.update keyStr underlying255 (by simp only [maxLen];omega) (keyOfStr s l) (.bool true)
 refine⟨w',f,⟨n+1,_,d,by rw [XM];simp;omega,fun t=>?_⟩,j⟩
 show (if (Lit.string t.data.toList).sameKey (.string s.data.toList)=true then some (Value.bool true) else M (.string t.data.toList))=_
 rw [sameStr,List.any_append]
 by_cases e:t=s
 ·subst e
  rw [XK Wz,XK Wz]
 ·have i:t.data.toList≠s.data.toList:=fun q=>e (Q6 q)
  have m:[s].any (fun k=>decide (k=t))=false:=by simp [Ne.symm e]
  rw [XJ (by simpa using i),h3 t,m,Bool.or_false]
def Z8:List ByteArray→List ByteArray→Bool
 | _,[]=>true
 | seen,k::t=>!(seen.any (fun x=>decide (x=k)))&&zv k&&Z8 (seen++[k]) t
theorem keysGo_eq:∀ (l seen:List ByteArray),seen.Nodup→(Z8 seen l=true↔(∀ k,k∈l→zv k=true)∧(seen++l).Nodup)
 | [],seen,hs=>by simp [Z8,hs]
 | k::t,seen,hs=>by
  unfold Z8
  rw [XR,XR]
  by_cases hk:k∈seen
  ·have h1:(seen.any (fun x=>decide (x=k)))=true:=List.any_eq_true.2 ⟨k,hk,Wz⟩
   rw [h1]
   constructor
   ·rintro ⟨⟨h,_⟩,_⟩;simp at h
   ·rintro ⟨_,h⟩
    exact absurd rfl ((uz.1 h).2.2 k hk k Wz)
  ·have h1:(seen.any (fun x=>decide (x=k)))=false:=by
    rw [List.any_eq_false]
    intro x m e
    rw [decide_eq_true_iff] at e
    exact hk (e ▸ m)
   have d:(seen++[k]).Nodup:=by
    refine uz.2 ⟨hs,Wz,?_⟩
    intro a j b i e
    simp at i
    exact hk (by rw [← i,← e];exact j)
   rw [h1,keysGo_eq t (seen++[k]) d]
   simp only [Xv,uU,X8,Bool.not_false,true_and,XY,forall_eq_or_imp]
   constructor
   ·rintro ⟨h2,h3,f⟩;exact⟨⟨h2,h3⟩,f⟩
   ·rintro ⟨⟨h2,h3⟩,f⟩;exact⟨h2,h3,f⟩
theorem keysGo_all {α:Type}(m:List (ByteArray×α)):Z8 [] (m.map (fun p=>p.1))=xe m:=by
 rw [Bool.eq_iff_iff,keysGo_eq _ [] VC]
 unfold xe
 rw [XR,Xk,decide_eq_true_iff,X8]
 constructor
 ·rintro ⟨a,h2⟩;exact⟨fun p hp=>a p.1 (Xm.2 ⟨p,hp,rfl⟩),h2⟩
 ·rintro ⟨a,h2⟩;exact⟨fun k b=>by obtain⟨p,hp,rfl⟩:=Xm.1 b;exact a p hp,h2⟩
theorem keys_any {v:VS (V n)}{S:Nat→Prop}{w:World}{cs:List Value}{vl:Value}{b:Option Addr}{lcs:List (List Value)}{mcs:List (ByteArray×List Value)}(h:yj (Rep n S w) S w cs v vl (.slice b v.m.length e) lcs mcs)(hm:v.m.length≤20000)(B:∀ p,p∈v.m→p.1.size≤400000)(G:xS w) : zG w 243 #[.slice b v.m.length e] (.bool (xe v.m)):=by
 have H:=qI h
 have Gk:=qI B
 have HT:=qI G
 have D:=qI (keysGo_all v.m)
 obtain⟨J,A⟩:=XE (w.alloc (.map #[] 0))
 have Gq:Hid (zb [] w J):=qI (kA1 A.o)
 have Gr:Hid (kt J w.heap.size []):=qI (by rw [A.o];exact seen_new rfl)
 clear h B G
 have C:=@run_makeMap prog
 go_enter func243,ntmps243
 go_wp2_with fail
 clear C
 rw [← A.o]
 go_loopw [9] (fun i wr=>∃ k:Nat,i = .int .i64 k∧k≤v.m.length∧kt wr w.heap.size ((v.m.take k).map (fun p=>p.1))∧Z8 ((v.m.take k).map (fun p=>p.1)) ((v.m.drop k).map (fun p=>p.1))=Z8 [] (v.m.map (fun p=>p.1))∧zb [] w wr) (fun i _=>v.m.length-(intOf i).toNat)
 case atStart=>exact⟨0,rfl,XB,Gr.o,rfl,Gq.o⟩
 case round=>
  obtain⟨k,rfl,B,K,P,t⟩:=hrel
  have E:=qI K
  have y:=qI P
  have l:=qI t
  clear K P t
  by_cases f:k<v.m.length
  ·have F:(k:Int)<v.m.length:=by omega
   obtain⟨g,o,cap,kd,X,st,a1,b1,N,L,q1,q2,q3,q4,q5,W⟩:=H.o.at_m l.o k f
   simp only [XU] at N
   obtain⟨rfl,-,rfl⟩:=N
   obtain⟨Y,U,I,p2,Q,R,rfl,rfl⟩:=W.sl
   have s:v.m[k].1.size≤400000:=Gk.o _ (XX f)
   have u:Hid ((v.m.take (k+1)).map (fun p=>p.1)=(v.m.take k).map (fun p=>p.1)++[v.m[k].1]):=qI (xQ _ _ _ f)
   have j:Hid (Z8 ((v.m.take k).map (fun p=>p.1)) ((v.m.drop k).map (fun p=>p.1))=(!(((v.m.take k).map (fun p=>p.1)).any (fun x=>decide (x=v.m[k].1)))&&zv v.m[k].1&&Z8 ((v.m.take k).map (fun p=>p.1)++[v.m[k].1]) ((v.m.drop (k+1)).map (fun p=>p.1)))):=qI (by
    conv=>lhs;rw [X0 f]
    rfl)
   have aa:((v.m.take k).map (fun p=>p.1)).length≤20000:=by rw [Xb,Xe];omega
   clear W
   revert L s u j
   generalize v.m[k].1=key
   intro L s u j
   have q:=qI ((zb.refl [] wr).alloc (.cells #[.string key,.int .i64 kd,.int .i64 X,.string st,.slice Y U I,.slice p2 Q R] 41))
   have a:=(E.o.k0 q.o).look key Ws
   have Z:=qI (pbox_at (w:=wr) rfl key kd X st (.slice Y U I) (.slice p2 Q R) 41)
   have z:=qI (zbq (HT.o.k0 (l.o.then q.o)) key Ws)
   revert a j z
   generalize ((v.m.take k).map (fun p=>p.1)).any (fun x=>decide (x=key))=r
   generalize zv key=ok
   intro j a z
   cases r with
   | true=>
    go_wp2_with fail
    go_ret
    rw [← D.o,← y.o,j.o]
    exact⟨Wz,l.o.then q.o⟩
   | false=>
    cases ok with
    | false=>
     go_wp2_with (go_at_call 242;refine z.o.mono ?_;rintro e w2 ⟨rfl,d⟩)
     go_ret
     rw [← D.o,← y.o,j.o]
     exact⟨Wz,(l.o.then q.o).then d⟩
    | true=>
     go_wp2_with (go_at_call 242;refine z.o.mono ?_;rintro e w2 ⟨rfl,d⟩;have M:=qI (q.o.then d);obtain⟨y0,-,-,-,-,-⟩:=Z.o.k0 d;obtain⟨w3,hput,hs3,hk3⟩:=(E.o.k0 M.o).put key Ws Ws;have Gt:=qI hs3;have Gf:=qI hk3;clear d hs3 hk3)
     case roundEnd=>
      refine⟨⟨k+1,by go_num,Ws,?_,?_,?_⟩,by simp [intOf];omega⟩
      ·rw [u.o];exact Gt.o
      ·rw [← y.o,j.o,u.o];simp
      ·exact (l.o.then M.o).trans Gf.o (fun i O=>by simp at O;subst O;exact .inr (XA))
  ·obtain rfl:k=v.m.length:=by omega
   go_wp2_with fail
   go_ret
   rw [← D.o,← y.o,uV]
   exact⟨rfl,l.o⟩
theorem zaH:∀ (l:List (List UInt8)) (x:List UInt8),zS (l++[x])=if l=[] then x else zS l++44::x
 | [],x=>rfl
 | [a],x=>rfl
 | a::b::t,x=>by
  have ih:=zaH (b::t) x
  rw [XJ Wz] at ih
  rw [XJ Wz]
  show a++(44::zS (b::t++[x]))=(a++(44::zS (b::t)))++44::x
  rw [ih]
  simp
def qP (it:Nat→List UInt8)(k:Nat):List UInt8:=zS ((List.range k).map it)
theorem Zl (it:Nat→List UInt8):qP it 0=[]:=rfl
theorem zbj (it:Nat→List UInt8):qP it 1=it 0:=rfl
theorem zad (it:Nat→List UInt8)(h:0<k):qP it (k+1)=(qP it k++[44])++it k:=by
 unfold qP
 rw [VJ,Xc,Xf,X3,zaH,XJ (by
  intro e
  have:=congrArg List.length e
  simp at this
  omega)]
 simp
theorem KO (it:Nat→List UInt8)(k:Nat):(qP it (k+1)).length=(qP it k).length+(if k=0 then 0 else 1)+(it k).length:=by
 rcases VD k with rfl | h
 ·rw [zbj,Zl];simp
 ·rw [zad it h,XJ Ws]
  simp only [XM,XP,Xo]
theorem K5 (it:Nat→List UInt8)(h:k≤n):(qP it k).length≤(qP it n).length:=by
 induction n with
 | zero => obtain rfl : k = 0 := by omega
           exact XA
 | succ n ih=>
  by_cases e:k=n+1
  ·subst e;exact XA
  ·have:=ih Ws
   have:=KO it n
   omega
theorem preC_all {α:Type}(f:α→List UInt8)(xs:List α):qP (fun k=>(xs.map f).getD k []) xs.length=zS (xs.map f):=by
 unfold qP
 congr 1
 refine uZ Wz fun i a h2=>?_
 simp only [uJ,List.getElem_range]
 simp only [Xb,List.length_range] at a
 simp [a]
def qD (b:Nat)(W:World):Prop:=∃ Wt,xS Wt∧zb [] Wt W∧Wt.heap.size≤b
theorem qD.at {w:World}(h:qD b W)(k:zb [b] W w):xS w:=by
 obtain⟨e,d,h2,h3⟩:=h
 exact d.k0 (h2.trans k (fun i a=>by simp at a;subst a;exact .inr h3))
theorem wbyte_44 (d:JP T){w:World}(h:BW T W b w l)(a:l.length≤100000000) : Calls prog 99 #[.pointer (some ⟨b,0,none⟩),.int .u8 44] w fun e w'=>e = .returned .nilIface∧BW T W b w' (l++[44])∧zY b w w':=qf d h a 44
theorem wbyte_58 (d:JP T){w:World}(h:BW T W b w l)(a:l.length≤100000000) : Calls prog 99 #[.pointer (some ⟨b,0,none⟩),.int .u8 58] w fun e w'=>e = .returned .nilIface∧BW T W b w' (l++[58])∧zY b w w':=qf d h a 58
theorem zbV {w:World}(h:BW 189 W b w l)(f:qD b W)(r:l.length≤90000000)(s:ByteArray)(k:s.size≤1000000)(hv:zv s=true) : Calls prog 194 #[.pointer (some ⟨b,0,none⟩),.string s] w fun e w'=>e = .returned (.tuple #[])∧BW 189 W b w' (l++yJ s.data.toList)∧zY b w w':=by
 have n:=qI (utfQuote (f.at h.kept) s k hv)
 have p:=qI h
 have j:Hid ((zw (yJ s.data.toList)).size≤100000000):=qI (by
  have:=J3 s.data.toList
  rw [zZ]
  have e:s.data.toList.length=s.size:=Wz
  omega)
 clear h f hv
 go_enter func194,ntmps194
 go_wp2_with (first
  | (go_at_call 238;refine n.o.mh ?_;rintro e w1 rfl i)
  | (go_at_call 191;refine (vz xC (p.o.stay i.o) Ws (zw (yJ s.data.toList)) j.o).mono ?_;rintro e w2 ⟨rfl,a,d⟩;rw [zJ] at a;have m:=qI a;have q:=qI d;clear a d))
 go_end0
 exact⟨rfl,m.o,(zY.of0 i.o).trans q.o⟩
theorem between1_any {w:World}{o c:UInt8}(L:∀ w1 w2,J w1→zY b w1 w2→J w2)(K:∀ k w1 l1,k<n→J w1→BW 189 W b w1 l1→l1.length+(it k).length≤50000000→Calls prog 196 #[.int .i64 k,.pointer (some ⟨b2,0,none⟩),.pointer (some ⟨b3,0,none⟩)] w1 fun r w2=>r = .returned (.tuple #[])∧BW 189 W b w2 (l1++it k)∧zY b w1 w2)(E:J w)(q:BW 189 W b w l)(Z:n≤20000)(Y:l.length+(qP it n).length≤49999998) : Calls prog 195 #[.pointer (some ⟨b,0,none⟩),.int .u8 o.toNat,.int .i64 n,.func (.func 196) #[] #[.pointer (some ⟨b2,0,none⟩),.pointer (some ⟨b3,0,none⟩)],.int .u8 c.toNat] w fun r w'=>r = .returned (.tuple #[])∧BW 189 W b w' (l++(o::(qP it n++[c])))∧zY b w w':=by
 have X:=qI q
 have F:=qI E
 have G:=qI K
 have H:=qI L
 clear q E K L
 go_enter func195,ntmps195
 go_wp2_with (go_at_call 99;refine (qf xC X.o Ws o).mono ?_;rintro e w1 ⟨rfl,y,t⟩;have N:=qI y;have R:=qI t;clear y t)
 go_loopw [17] (fun i wr=>∃ k:Nat,i = .int .i64 k∧k≤n∧BW 189 W b wr (l++[o]++qP it k)∧zY b w wr) (fun i _=>n-(intOf i).toNat)
 case atStart=>exact⟨0,rfl,XB,by rw [Zl,Xn];exact N.o,R.o⟩
 case round=>
  obtain⟨k,rfl,P,q,s⟩:=hrel
  have B:=qI q
  have u:=qI s
  have C:=K5 it P
  have f:(l++[o]++qP it k).length=l.length+1+(qP it k).length:=by simp only [XM,XP,Xo]
  clear q s
  by_cases h:k<n
  ·have D:(k:Int)<n:=by omega
   have j:=KO it k
   have A:=K5 it (show k+1≤n from h)
   by_cases I:k=0
   ·subst I
    have U:=qI (G.o _ _ _ h (H.o _ _ F.o u.o) B.o (by simp only [if_true] at j;omega))
    have z:Hid (l++[o]++qP it 0++it 0=l++[o]++qP it (0+1)):=qI (by rw [Zl,zbj,Xn])
    clear j f C A
    rw [show (((0:Nat):Nat):Int)=0 from rfl] at *
    go_wp2_with (go_at_call 196;refine U.o.mono ?_;rintro e w2 ⟨rfl,a,d⟩;rw [z.o] at a;have v:=qI a;have p:=qI d;clear a d)
    case roundEnd=>exact⟨⟨0+1,by go_num,Ws,v.o,u.o.trans p.o⟩,by simp [intOf];omega⟩
   ·have M:(0:Int)<k:=by omega
    rw [XJ I] at j
    have z:Hid (l++[o]++qP it k++[44]++it k=l++[o]++qP it (k+1)):=qI (by rw [zad it Ws];simp)
    go_wp2_with (first
     | (go_at_call 99;refine (wbyte_44 xC B.o Ws).mono ?_;rintro e w2 ⟨rfl,a,d⟩;have v:=qI a;have p:=qI d;clear a d)
     | (go_at_call 196;refine (G.o _ _ _ h (H.o _ _ F.o (u.o.trans p.o)) v.o (by rw [XM,f];simp only [XP,Xo];omega)).mono ?_;rintro e w3 ⟨rfl,m,x⟩;rw [z.o] at m;have O:=qI m;have Q:=qI x;clear m x))
    case roundEnd=>exact⟨⟨k+1,by go_num,Ws,O.o,(u.o.trans p.o).trans Q.o⟩,by simp [intOf];omega⟩
  ·obtain rfl:k=n:=by omega
   have z:Hid (l++[o]++qP it k++[c]=l++(o::(qP it k++[c]))):=qI Wz
   go_wp2_with (go_at_call 99;refine (qf xC B.o Ws c).mono ?_;rintro e w2 ⟨rfl,a,d⟩;rw [z.o] at a;have v:=qI a;have p:=qI d;clear a d)
   go_end0
   exact⟨rfl,v.o,u.o.trans p.o⟩
theorem between2_any {w:World}{o c:UInt8}(L:∀ w1 w2,J w1→zY b w1 w2→J w2)(K:∀ k w1 l1,k<n→J w1→BW 189 W b w1 l1→l1.length+(it k).length≤50000000→Calls prog 197 #[.int .i64 k,.pointer (some ⟨b2,0,none⟩),.pointer (some ⟨b3,0,none⟩)] w1 fun r w2=>r = .returned (.tuple #[])∧BW 189 W b w2 (l1++it k)∧zY b w1 w2)(E:J w)(q:BW 189 W b w l)(Z:n≤20000)(Y:l.length+(qP it n).length≤49999998) : Calls prog 195 #[.pointer (some ⟨b,0,none⟩),.int .u8 o.toNat,.int .i64 n,.func (.func 197) #[] #[.pointer (some ⟨b2,0,none⟩),.pointer (some ⟨b3,0,none⟩)],.int .u8 c.toNat] w fun r w'=>r = .returned (.tuple #[])∧BW 189 W b w' (l++(o::(qP it n++[c])))∧zY b w w':=by
 have X:=qI q
 have F:=qI E
 have G:=qI K
 have H:=qI L
 clear q E K L
 go_enter func195,ntmps195
 go_wp2_with (go_at_call 99;refine (qf xC X.o Ws o).mono ?_;rintro e w1 ⟨rfl,y,t⟩;have N:=qI y;have R:=qI t;clear y t)
 go_loopw [17] (fun i wr=>∃ k:Nat,i = .int .i64 k∧k≤n∧BW 189 W b wr (l++[o]++qP it k)∧zY b w wr) (fun i _=>n-(intOf i).toNat)
 case atStart=>exact⟨0,rfl,XB,by rw [Zl,Xn];exact N.o,R.o⟩
 case round=>
  obtain⟨k,rfl,P,q,s⟩:=hrel
  have B:=qI q
  have u:=qI s
  have C:=K5 it P
  have f:(l++[o]++qP it k).length=l.length+1+(qP it k).length:=by simp only [XM,XP,Xo]
  clear q s
  by_cases h:k<n
  ·have D:(k:Int)<n:=by omega
   have j:=KO it k
   have A:=K5 it (show k+1≤n from h)
   by_cases I:k=0
   ·subst I
    have U:=qI (G.o _ _ _ h (H.o _ _ F.o u.o) B.o (by simp only [if_true] at j;omega))
    have z:Hid (l++[o]++qP it 0++it 0=l++[o]++qP it (0+1)):=qI (by rw [Zl,zbj,Xn])
    clear j f C A
    rw [show (((0:Nat):Nat):Int)=0 from rfl] at *
    go_wp2_with (go_at_call 197;refine U.o.mono ?_;rintro e w2 ⟨rfl,a,d⟩;rw [z.o] at a;have v:=qI a;have p:=qI d;clear a d)
    case roundEnd=>exact⟨⟨0+1,by go_num,Ws,v.o,u.o.trans p.o⟩,by simp [intOf];omega⟩
   ·have M:(0:Int)<k:=by omega
    rw [XJ I] at j
    have z:Hid (l++[o]++qP it k++[44]++it k=l++[o]++qP it (k+1)):=qI (by rw [zad it Ws];simp)
    go_wp2_with (first
     | (go_at_call 99;refine (wbyte_44 xC B.o Ws).mono ?_;rintro e w2 ⟨rfl,a,d⟩;have v:=qI a;have p:=qI d;clear a d)
     | (go_at_call 197;refine (G.o _ _ _ h (H.o _ _ F.o (u.o.trans p.o)) v.o (by rw [XM,f];simp only [XP,Xo];omega)).mono ?_;rintro e w3 ⟨rfl,m,x⟩;rw [z.o] at m;have O:=qI m;have Q:=qI x;clear m x))
    case roundEnd=>exact⟨⟨k+1,by go_num,Ws,O.o,(u.o.trans p.o).trans Q.o⟩,by simp [intOf];omega⟩
  ·obtain rfl:k=n:=by omega
   have z:Hid (l++[o]++qP it k++[c]=l++(o::(qP it k++[c]))):=qI Wz
   go_wp2_with (go_at_call 99;refine (qf xC B.o Ws c).mono ?_;rintro e w2 ⟨rfl,a,d⟩;rw [z.o] at a;have v:=qI a;have p:=qI d;clear a d)
   go_end0
   exact⟨rfl,v.o,u.o.trans p.o⟩
open Go.Lib (decodeL toLowerU toLowerD mapGoD encodeRune encodeRuneZ caseA caseT lookupIdx CaseRow)
def yW (c:UInt8):Bool:=decide (48≤c.toNat∧c.toNat≤57) || decide (97≤c.toNat∧c.toNat≤102)
def kz (c:UInt8):Bool:=(km c).isSome
def qb (c:UInt8):UInt8:=if 65≤c.toNat∧c.toNat≤90 then UInt8.ofNat (c.toNat+32) else c
def rowFine (x:CaseRow):Bool:=
 decide ((x.2.1:Int)<128) || (if x.delta 1 > 1114111 then decide (128≤x.1) else
  decide ((0:Int)≤max x.1 128+x.delta 1)&&(decide ((102:Int)<max x.1 128+x.delta 1) || (decide ((57:Int)<max x.1 128+x.delta 1)&&decide ((x.2.1:Int)+x.delta 1<97)) || decide ((x.2.1:Int)+x.delta 1<48)))
theorem rows_fine:caseT.all rowFine=true:=by decide +kernel
theorem lookup_row (T:Array CaseRow)(r:Int):∀ (f lo hi i:Nat),lookupIdx T r f lo hi=some i→((T.getD i (0,0,0,0,0)).1:Int)≤r∧r≤((T.getD i (0,0,0,0,0)).2.1:Int):=by
 intro f
 induction f with
 | zero=>intro lo hi i h;cases h
 | succ f ih=>
  intro lo hi i h
  unfold lookupIdx at h
  split at h
  ·split at h
   ·rename_i hc
    injection h with h
    subst h
    exact hc
   ·split at h
    ·exact ih _ _ _ h
    ·exact ih _ _ _ h
  ·cases h
theorem lower_far (r:Int)(h:128≤r):0≤toLowerU r∧¬ (48≤toLowerU r∧toLowerU r≤57)∧¬ (97≤toLowerU r∧toLowerU r≤102):=by
 unfold toLowerU
 rw [XJ Ws]
 unfold Lib.toR Lib.lookupGo
 cases f:lookupIdx caseA r (caseA.size+1) 0 caseA.size with
 | none=>
  show 0≤r∧¬ (48≤r∧r≤57)∧¬ (97≤r∧r≤102)
  omega
 | some i=>
  obtain⟨d,h2⟩:=lookup_row caseA r _ _ _ _ f
  show 0≤Lib.convertR 1 r (caseA.getD i (0,0,0,0,0))∧¬ (48≤Lib.convertR 1 r (caseA.getD i (0,0,0,0,0))∧Lib.convertR 1 r (caseA.getD i (0,0,0,0,0))≤57)∧¬ (97≤Lib.convertR 1 r (caseA.getD i (0,0,0,0,0))∧Lib.convertR 1 r (caseA.getD i (0,0,0,0,0))≤102)
  have a:rowFine (caseA.getD i (0,0,0,0,0))=true:=by
   by_cases b:i<caseA.size
   ·have e:caseA.getD i (0,0,0,0,0)=caseA[i]:=by simp [Array.getD,b]
    rw [e]
    exact Xk.1 rows_fine _ (by
     have:caseA[i]∈caseA.toList:=Array.getElem_mem_toList b
     exact this)
   ·have e:caseA.getD i (0,0,0,0,0)=(0,0,0,0,0):=by simp [Array.getD,b]
    rw [e] at h2
    have h2:r≤0:=h2
    omega
  revert d h2 a
  generalize caseA.getD i (0,0,0,0,0)=x
  intro d h2 a
  unfold rowFine at a
  unfold Lib.convertR
  split
  ·rename_i hd
   rw [XK hd] at a
   simp only [uW,Xa] at a
   omega
  ·rename_i hd
   rw [XJ hd] at a
   simp only [uW,XR,Xa] at a
   omega
theorem byteZ (z:Int)(b:0≤z)(a:z<256):(z.toNat.toUInt8).toNat=z.toNat:=by
 show (UInt8.ofNat z.toNat).toNat=z.toNat
 rw [ui];omega
theorem enc_far (z:Int)(a:0≤z)(b:¬ (48≤z∧z≤57))(h2:¬ (97≤z∧z≤102)):(encodeRune z).all yW=false:=by
 have key:∀ (y:Int) (t:List Int),encodeRuneZ z=y::t→0≤y→y<256→¬ (48≤y∧y≤57)→¬ (97≤y∧y≤102)→(encodeRune z).all yW=false:=by
  intro y t e k0 d f h
  unfold encodeRune
  rw [e,Xf,VA]
  have:yW y.toNat.toUInt8=false:=by
   unfold yW
   rw [byteZ y k0 d,Bool.or_eq_false_iff]
   exact⟨XO Ws,XO Ws⟩
  rw [this];rfl
 by_cases c1:z≤127
 ·exact key z [] (Lib.encodeRuneZ_one a c1) a Ws b h2
 by_cases c2:z≤2047
 ·exact key _ _ (Lib.encodeRuneZ_two Ws c2) Ws Ws Ws Ws
 by_cases c3:(2048≤z∧z<55296)∨(57343<z∧z≤65535)
 ·exact key _ _ (Lib.encodeRuneZ_three c3) Ws Ws Ws Ws
 by_cases c4:65536≤z∧z≤1114111
 ·exact key _ _ (Lib.encodeRuneZ_four c4.1 c4.2) Ws Ws Ws Ws
 ·exact key _ _ (Lib.encodeRuneZ_bad Ws) Wo Wo Wo Wo
theorem low_ascii:∀ n:Fin 128,toLowerU (n.val:Int)=((qb (UInt8.ofNat n.val)).toNat:Int)∧yW (qb (UInt8.ofNat n.val))=kz (UInt8.ofNat n.val)∧km (qb (UInt8.ofNat n.val))=km (UInt8.ofNat n.val)∧(qb (UInt8.ofNat n.val)).toNat<128:=by decide +kernel
theorem low_byte (b:UInt8)(h:b.toNat<128):toLowerU (b.toNat:Int)=((qb b).toNat:Int)∧yW (qb b)=kz b∧km (qb b)=km b∧(qb b).toNat<128:=by
 have:=low_ascii ⟨b.toNat,h⟩
 simp only [uR] at this
 exact this
theorem zbz {b:UInt8}(h:128≤b.toNat):kz b=false:=by
 unfold kz km
 rw [XJ Ws,XJ Ws,XJ Ws]
 rfl
theorem enc_byte (b:UInt8)(h:b.toNat<128):encodeRune (b.toNat:Int)=[b]:=by
 unfold encodeRune
 rw [Lib.encodeRuneZ_one Ws Ws,Xf,X3]
 congr 1
 show UInt8.ofNat ((b.toNat:Int).toNat)=b
 rw [ux,uR]
theorem lower_go:∀ (n:Nat) (l:List UInt8),l.length≤n→(mapGoD toLowerU n l).all yW=l.all kz∧(l.all kz=true→mapGoD toLowerU n l=l.map qb):=by
 intro n
 induction n with
 | zero=>
  intro l h
  match l,h with
  | [],_=>exact⟨rfl,fun _=>rfl⟩
 | succ n ih=>
  intro l h
  by_cases a:l=[]
  ·subst a;exact⟨rfl,fun _=>rfl⟩
  unfold mapGoD
  rw [XJ a]
  by_cases s:(decodeL l).1=65533∧(decodeL l).2=1
  ·obtain⟨d,i,m⟩:=lower_far ((65533:Nat):Int) Wo
   have e:(decodeL l).1=65533:=s.1
   rw [e]
   show ((if 0≤toLowerU ((65533:Nat):Int) then encodeRune (toLowerU ((65533:Nat):Int)) else [])++_).all yW=_∧_
   rw [XK (by exact d),VH,enc_far _ d i m,Bool.false_and]
   have p:l.all kz=false:=by
    match l,a with
    | b::t,_=>
     have f:128≤b.toNat:=by
      refine Nat.le_of_not_lt fun hc=>?_
      have:decodeL (b::t)=(b.toNat,1):=by
       rw [ke]
       unfold Lib.decodeN
       rw [XK (show gb (b::t) 0<128 from hc)]
       rfl
      rw [this] at e
      have e:b.toNat=65533:=e
      omega
     rw [VA,zbz f,Bool.false_and]
   rw [p]
   exact⟨rfl,fun q=>by cases q⟩
  ·have D:=vo a s
   revert D
   generalize (decodeL l).1=c
   generalize (decodeL l).2=k
   intro D
   have v:=D.pos
   have h2:=D.le
   by_cases u:k=1
   ·subst u
    obtain⟨j,r⟩:=D.one rfl
    match l,a with
    | b::t,_=>
     have j:b.toNat<128:=j
     have r:c=b.toNat:=r
     subst r
     obtain⟨B,p2,p3,x⟩:=low_byte b j
     obtain⟨z,w⟩:=ih t (by simp only [XP] at h;omega)
     rw [B,XK Ws,enc_byte _ x]
     show ([qb b]++mapGoD toLowerU n t).all yW=_∧(_→[qb b]++mapGoD toLowerU n t=_)
     rw [VH,VA,List.all_nil,ub,p2,z,VA]
     refine⟨rfl,fun q=>?_⟩
     rw [XR] at q
     rw [w q.2];rfl
   ·have y:=D.high Ws
    have hc:128≤c:=by
     have A:=D.rune
     refine Nat.le_of_not_lt fun hc=>?_
     have:(yi c).length=k:=by rw [A,Xe];omega
     rw [kq c D.valid,XK hc] at this
     exact u this.symm
    obtain⟨d,i,m⟩:=lower_far (c:Int) Ws
    rw [XK d,VH,enc_far _ d i m,Bool.false_and]
    have p:l.all kz=false:=by
     match l,a with
     | b::t,_=>
      have:128≤b.toNat:=y b (by
       match k,v with
       | k+1,_=>rw [List.take_succ_cons];exact Xp ..)
      rw [VA,zbz this,Bool.false_and]
    rw [p]
    exact⟨rfl,fun q=>by cases q⟩
theorem lower_hex (l:List UInt8):(toLowerD l).all yW=l.all kz∧(l.all kz=true→toLowerD l=l.map qb):=lower_go l.length l (XA)
theorem KW (b:UInt8)(h:kz b=true):km (qb b)=km b∧yW (qb b)=true:=by
 have a:b.toNat<128:=Nat.lt_of_not_le fun hc=>by rw [zbz hc] at h;cases h
 obtain⟨_,p2,p3,_⟩:=low_byte b a
 exact⟨p3,by rw [p2];exact h⟩
open Go.Lib
theorem dw_nil {α:Type}(p:α→Bool):∀ (l:List α),l.dropWhile p=[]↔∀ x,x∈l→p x=true
 | []=>by simp
 | a::l=>by
  rw [List.dropWhile_cons]
  by_cases h:p a=true
  ·rw [XK h,dw_nil p l]
   simp [h]
  ·rw [XJ h]
   simp [h]
theorem trimS_nil (l cs:List UInt8):trimS l cs=[]↔l.all (cs.contains ·)=true:=by
 unfold trimS trimLeftS trimRightS
 rw [dw_nil,Xk]
 constructor
 ·intro h
  have d:(l.reverse.dropWhile (cs.contains ·))=[]:=by
   rcases Decidable.em ((l.reverse.dropWhile (cs.contains ·))=[]) with h1 | h1
   ·exact h1
   ·have h2:=List.head_dropWhile_not (cs.contains ·) h1
    rw [h _ (by simpa using List.head_mem h1)] at h2
    cases h2
  rw [dw_nil] at d
  exact fun x b=>d x (by simpa using b)
 ·intro h x b
  have a:x∈l.reverse.dropWhile (cs.contains ·):=by simpa using b
  have:=(List.dropWhile_sublist (cs.contains ·)).subset a
  exact h x (by simpa using this)
def kT:List UInt8:=[48,49,50,51,52,53,54,55,56,57,97,98,99,100,101,102]
theorem KL (c:UInt8):UInt8.ofNat c.toNat=c:=Wz
theorem zbS (c:UInt8):kT.contains c=yW c:=by
 have h:∀ n:Fin 256,kT.contains (UInt8.ofNat n.val)=yW (UInt8.ofNat n.val):=by decide +kernel
 have:=h ⟨c.toNat,c.toNat_lt⟩
 simpa [KL] using this
def hv (c:UInt8):Nat:=(km c).getD 0
theorem xv (c:UInt8)(hc:yW c=true):indexByte kT c=hv c∧hv c<16∧km c=some (hv c):=by
 have h:∀ n:Fin 256,yW (UInt8.ofNat n.val)=true→indexByte kT (UInt8.ofNat n.val)=hv (UInt8.ofNat n.val)∧hv (UInt8.ofNat n.val)<16∧km (UInt8.ofNat n.val)=some (hv (UInt8.ofNat n.val)):=by decide +kernel
 have:=h ⟨c.toNat,c.toNat_lt⟩
 simp only [KL] at this
 exact this hc
def xl:List UInt8→List UInt8
 | a::b::r=>UInt8.ofNat (hv a*16+hv b)::xl r
 | _=>[]
theorem ZT:∀ (l:List UInt8),(xl l).length=l.length/2
 | []=>rfl
 | [_]=>by simp [xl]
 | a::b::r=>by
  have:=ZT r
  simp only [xl,XP]
  omega
def JJ:List UInt8:=[34,92,47,98,102,110,114,116]
def escapedL:List UInt8:=[34,92,47,8,12,10,13,9]
theorem esc_found (y:UInt8):(∃ (k:Nat) (e:UInt8),k<8∧indexByte JJ y=(k:Int)∧escapedL[k]? = some e∧e.toNat<128∧∀ x r,jl (x::y::r)=some ([e],2))∨(indexByte JJ y = -1∧∀ x r,jl (x::y::r)=match qh (x::y::r) with | none=>none | some z=> if z<55296∨57343<z then some (yi z,6) else if 56319<z then none else match qh ((x::y::r).drop 6) with | none=>none | some t=>if 56320≤t∧t≤57343 then some (yi (65536+(z-55296)*1024+(t-56320)),12) else none):=by
 by_cases j:y=34
 ·subst j;exact .inl ⟨0,34,Wo,Wo,rfl,Wo,fun _ _=>rfl⟩
 by_cases d:y=92
 ·subst d;exact .inl ⟨1,92,Wo,Wo,rfl,Wo,fun _ _=>rfl⟩
 by_cases h2:y=47
 ·subst h2;exact .inl ⟨2,47,Wo,Wo,rfl,Wo,fun _ _=>rfl⟩
 by_cases h3:y=98
 ·subst h3;exact .inl ⟨3,8,Wo,Wo,rfl,Wo,fun _ _=>rfl⟩
 by_cases f:y=102
 ·subst f;exact .inl ⟨4,12,Wo,Wo,rfl,Wo,fun _ _=>rfl⟩
 by_cases i:y=110
 ·subst i;exact .inl ⟨5,10,Wo,Wo,rfl,Wo,fun _ _=>rfl⟩
 by_cases h6:y=114
 ·subst h6;exact .inl ⟨6,13,Wo,Wo,rfl,Wo,fun _ _=>rfl⟩
 by_cases b:y=116
 ·subst b;exact .inl ⟨7,9,Wo,Wo,rfl,Wo,fun _ _=>rfl⟩
 refine .inr ⟨?_,fun x r=>?_⟩
 ·have a:∀ v,y≠v→(v == y)=false:=fun v h=>by simpa using fun e:v=y=>h e.symm
  unfold JJ
  simp [indexByte,a 34 j,a 92 d,a 47 h2,a 98 h3,a 102 f,a 110 i,a 114 h6,a 116 b]
 ·conv=>lhs;unfold jl
  simp only
  rw [XJ j,XJ d,XJ h2,XJ h3,XJ f,XJ i,XJ h6,XJ b]
  all_goals rfl
theorem four_low (a b c d:UInt8):(∃ n,zaP a b c d=some n∧n<65536∧toLowerD [a,b,c,d]=[qb a,qb b,qb c,qb d]∧[qb a,qb b,qb c,qb d].all yW=true∧n=(hv (qb a)*16+hv (qb b))*256+(hv (qb c)*16+hv (qb d)))∨(zaP a b c d=none∧(toLowerD [a,b,c,d]).all yW=false):=by
 obtain⟨j,h2⟩:=lower_hex [a,b,c,d]
 by_cases e:[a,b,c,d].all kz=true
 ·have k:=h2 e
  rw [e,k] at j
  simp only [VA,List.all_nil,ub,XR] at e
  obtain⟨i,f,hc,hd⟩:=e
  obtain⟨u,a2⟩:=KW a i
  obtain⟨p,b2⟩:=KW b f
  obtain⟨c1,c2⟩:=KW c hc
  obtain⟨m,r⟩:=KW d hd
  obtain⟨-,w,t⟩:=xv _ a2
  obtain⟨-,b3,s⟩:=xv _ b2
  obtain⟨-,c3,c4⟩:=xv _ c2
  obtain⟨-,v,q⟩:=xv _ r
  refine .inl ⟨_,?_,?_,k,j,rfl⟩
  ·unfold zaP
   rw [← u,← p,← c1,← m,t,s,c4,q]
   simp only [Xt]
   omega
  ·omega
 ·refine .inr ⟨?_,by rw [j];simpa using e⟩
  simp only [VA,List.all_nil,ub,XR] at e
  unfold zaP
  have h:∀ x:UInt8,¬ kz x=true→km x=none:=fun x l=>by
   unfold kz at l
   simpa using l
  by_cases i:kz a=true
  ·by_cases f:kz b=true
   ·by_cases hc:kz c=true
    ·have hd:¬ kz d=true:=fun hd=>e ⟨i,f,hc,hd⟩
     rw [h d hd]
     cases km a <;> cases km b <;> cases km c <;> rfl
    ·rw [h c hc]
     cases km a <;> cases km b <;> rfl
   ·rw [h b f]
    cases km a <;> rfl
  ·rw [h a i]
theorem Qn:∀ (l:List UInt8) (k:Nat) (h:2*k+1<l.length),∃ h2:k<(xl l).length,(xl l)[k]=UInt8.ofNat (hv l[2*k]*16+hv l[2*k+1])
 | [],k,h=>by simp at h
 | [_],k,h=>by simp at h
 | a::b::r,0,h=>⟨by simp [xl],rfl⟩
 | a::b::r,k+1,h=>by
  obtain⟨h2,h3⟩:=Qn r k (by simp only [XP] at h;omega)
  refine⟨by simp only [xl,XP];omega,?_⟩
  have e:(a::b::r)[2*(k+1)]=r[2*k]'(by simp only [XP] at h;omega):=by
   simp only [show 2*(k+1)=2*k+1+1 by omega,List.getElem_cons_succ]
  have d:(a::b::r)[2*(k+1)+1]=r[2*k+1]'(by simp only [XP] at h;omega):=by
   simp only [show 2*(k+1)+1=2*k+1+1+1 by omega,List.getElem_cons_succ]
  rw [e,d,← h3]
  rfl
def xn (s:ByteArray):Option (List UInt8):=if s.size%2=0∧s.data.toList.all yW=true then some (xl s.data.toList) else none
section
variable {P : Program} {ops : Array Oper} {Q : Exit → Act → World → Prop} {md : Region.Mode} {S : World → Prop} {L : Nat}
end
structure InsL {n:Nat}(W:World)(b3:Nat)(v:VS (V n))(k:Nat)(wr:World)(vl:Value)(lcs:List (List Value)):Prop where
 blk:wr.heap[b3]? = some (.cells (xD v.kind v.num v.s vl (.slice none 0 0)) 25 (0,0))
 row:wr.ownsRow W.heap.size 25 5 vl k lcs.flatten
 all:zL (Rep n (fun g=>W.heap.size≤g∧vl.ownBlock≠some g) wr) lcs ((v.l.take k).map (zK n))
 kept:zb [b3] W wr
structure InsM {n:Nat}(W:World)(b3:Nat)(v:VS (V n))(vl:Value)(k:Nat)(wr:World)(vm:Value)(mcs:List (ByteArray×List Value))(ms:List (ByteArray×V n)):Prop where
 blk:wr.heap[b3]? = some (.cells (xD v.kind v.num v.s vl vm) 25 (0,0))
 row:wr.ownsRow W.heap.size 41 6 vm ms.length (yM mcs)
 all:zL (YQ (Rep n (fun g=>W.heap.size≤g∧vm.ownBlock≠some g) wr)) mcs ms
 kept:zb [b3] W wr
 ord:ms.Pairwise (fun x y=>leK x y=true)
 perm:ms.Perm ((v.m.take k).map (kR (zK n)))
 lim:ms.length=k
open Go.Lib (decodeL)
def Qc (m:Nat):Prop:=m<55296∨(57344≤m∧m≤1114111)
def ZF (s:List UInt8):Sum Int (List UInt8×Nat):=
 match s with
 | []=>.inl 31
 | c::_=>
  if c.toNat<32 then .inl 31
  else if c=92 then (match jl s with | none=>.inl 31 | some x=>.inr x)
  else if (decodeL s).1=65533∧(decodeL s).2=1 then .inl 30
  else .inr (s.take (decodeL s).2,(decodeL s).2)
theorem unq_part (f:Nat)(s acc:List UInt8)(h:s.head? ≠ some 34):yQ (f+1) s acc=match ZF s with | .inl e=>.inl e | .inr (b,n)=>yQ f (s.drop n) (acc++b):=by
 cases s with
 | nil=>rfl
 | cons c r=>
  have d:¬ c=34:=fun e=>h (by rw [e];rfl);have i:yQ (f+1) (c::r) acc=if c=34 then .inr (acc,r) else if c.toNat<32 then .inl 31 else if c=92 then (match jl (c::r) with | none=>.inl 31 | some (b,n)=>yQ f ((c::r).drop n) (acc++b)) else if (decodeL (c::r)).1=65533∧(decodeL (c::r)).2=1 then .inl 30 else yQ f ((c::r).drop (decodeL (c::r)).2) (acc++(c::r).take (decodeL (c::r)).2):=rfl;have j:ZF (c::r)=if c.toNat<32 then .inl 31 else if c=92 then (match jl (c::r) with | none=>.inl 31 | some x=>.inr x) else if (decodeL (c::r)).1=65533∧(decodeL (c::r)).2=1 then .inl 30 else .inr ((c::r).take (decodeL (c::r)).2,(decodeL (c::r)).2):=rfl;rw [i,j,XJ d];by_cases a:c.toNat<32;·rw [XK a,XK a]
  rw [XJ a,XJ a];by_cases h2:c=92
  ·rw [XK h2,XK h2];cases jl (c::r) with
   | none=>rfl
   | some x=>obtain⟨b,n⟩:=x;rfl
  rw [XJ h2,XJ h2];by_cases h3:(decodeL (c::r)).1=65533∧(decodeL (c::r)).2=1;·rw [XK h3,XK h3]
  ·rw [XJ h3,XJ h3]
theorem unq_quoteEnd (f:Nat)(s acc:List UInt8)(h:s.head? = some 34):yQ (f+1) s acc = .inr (acc,s.tail):=by
 cases s with
 | nil=>cases h
 | cons c r=>simp only [uH,Xt] at h;subst h;exact zaX f r acc
theorem zbt (e:UInt8)(h:e.toNat<128):yi e.toNat=[e]:=by
 rw [kq _ Ws,XK h,uR]
theorem esc_rune {s b:List UInt8}(h:jl s=some (b,n)):∃ m,Qc m∧yi m=b:=by
 match s,h with
 | [],h=>cases h
 | [_],h=>cases h
 | x::y::r,h=>
  rcases esc_found y with ⟨k,e,-,-,-,f,a⟩ | ⟨-,a⟩;·rw [a] at h;injection h with h;injection h with h1 h2;subst h1;exact⟨e.toNat,.inl Ws,zbt e f⟩
  ·rw [a] at h;split at h;·cases h
   ·split at h;·rename_i z d hc;injection h with h;injection h with h1 h2;have:=(qS d).1;exact⟨z,by unfold Qc;omega,h1⟩
    split at h;·cases h
    split at h;·cases h
    ·rename_i z d l i t j;split at h;·injection h with h;injection h with h1 h2;exact⟨_,by unfold Qc;omega,h1⟩
     ·cases h
theorem part_ok {s b:List UInt8}(h:ZF s = .inr (b,n)):1≤n∧n≤s.length∧b≠[]∧b.length≤n∧∃ m,Qc m∧yi m=b:=by
 have d:∀ m,Qc m→yi m≠[]:=fun m hm e=>by have:=(kM m hm).2.1;rw [e] at this;simp at this
 have a:(1≤n∧n≤s.length∧b.length≤n)→(∃ m,Qc m∧yi m=b)→1≤n∧n≤s.length∧b≠[]∧b.length≤n∧∃ m,Qc m∧yi m=b:=by rintro ⟨p,a2,t⟩ ⟨m,f,m2⟩;exact⟨p,a2,by rw [← m2];exact d m f,t,m,f,m2⟩
 unfold ZF at h;split at h;·cases h
 ·rename_i c r;split at h;·cases h
  split at h
  ·split at h;·cases h
   ·rename_i x i;injection h with h;subst h;obtain⟨u,k,l,q⟩:=QC i;exact a ⟨l,q,k⟩ (esc_rune i)
  split at h;·cases h
  ·rename_i j;injection h with h;injection h with h1 h2;subst h1 h2;have D:=vo Wz j;exact a ⟨D.pos,D.le,by rw [Xe];omega⟩ ⟨_,D.valid,D.rune⟩
def YG (s:List UInt8)(k:Nat)(acc:List UInt8):Prop:=(k≤s.length∧acc.length≤k)∧∃ f,(s.drop k).length<f∧yQ f (s.drop k) acc=xJ s
theorem YG.start {c:UInt8}{r:List UInt8}(h:c=34):YG (c::r) 1 []:=by
 subst h;exact⟨⟨Wz,Wz⟩,r.length+1,Wz,by unfold xJ;simp⟩
theorem YG.done {s acc:List UInt8}(h:YG s k acc)(hd:(s.drop k).head? = some 34):xJ s = .inr (acc,s.drop (k+1))∧k+1≤s.length:=by
 obtain⟨b,f,a,h2⟩:=h
 match f,a with
 | f+1,a=>rw [← h2,unq_quoteEnd f _ _ hd,List.tail_drop];refine⟨rfl,?_⟩;refine Nat.lt_of_not_le fun hc=>?_;rw [List.drop_eq_nil_of_le hc] at hd;cases hd
theorem YG.bad {s acc:List UInt8}(h:YG s k acc)(hd:(s.drop k).head? ≠ some 34){e:Int}(hp:ZF (s.drop k) = .inl e):xJ s = .inl e:=by
 obtain⟨b,f,a,h2⟩:=h
 match f,a with
 | f+1,a=>rw [← h2,unq_part f _ _ hd,hp]
theorem YG.next {s acc b:List UInt8}(h:YG s k acc)(hd:(s.drop k).head? ≠ some 34)(hp:ZF (s.drop k) = .inr (b,n)):YG s (k+n) (acc++b):=by
 obtain⟨e,f,a,h2⟩:=h;obtain⟨d,p2,-,p3,-⟩:=part_ok hp;rw [XW] at p2
 match f,a with
 | f+1,a=>
  refine⟨⟨Ws,by rw [XM];omega⟩,f,?_,?_⟩;·rw [XW] at a ⊢;omega
  ·rw [← h2,unq_part f _ _ hd,hp];show yQ f (s.drop (k+n)) (acc++b)=yQ f ((s.drop k).drop n) (acc++b);rw [uD]
def Qu (s:List UInt8)(e:Ending):Prop:=
 match xJ s with
 | .inr (t,r)=>∃ k,k≤s.length∧s.drop k=r∧1≤k∧e = .returned (.tuple #[.string (zw t),.int .i64 (k:Nat),.int .i64 0])
 | .inl x=>∃ k,k≤s.length∧e = .returned (.tuple #[.string ⟨#[]⟩,.int .i64 (k:Nat),.int .i64 x])
theorem unqAns_ok {s r:List UInt8}(h:xJ s = .inr (t,r))(a:k≤s.length)(h2:s.drop k=r)(h3:1≤k):Qu s (.returned (.tuple #[.string (zw t),.int .i64 (k:Nat),.int .i64 0])):=by
 unfold Qu;rw [h];exact⟨k,a,h2,h3,rfl⟩
theorem zbd {s:List UInt8}{x:Int}(h:xJ s = .inl x)(a:k≤s.length):Qu s (.returned (.tuple #[.string ⟨#[]⟩,.int .i64 (k:Nat),.int .i64 x])):=by
 unfold Qu;rw [h];exact⟨k,a,rfl⟩
theorem J2:∀ (f:Nat) (s acc:List UInt8) (e:Int),yQ f s acc = .inl e→e=30∨e=31
 | 0,_,_,e,h=>by injection h with h;omega
 | f+1,s,acc,e,h=>by
  unfold yQ at h;split at h;·injection h with h;omega
  split at h;·cases h
  split at h;·injection h with h;omega
  split at h
  ·split at h;·injection h with h;omega
   ·exact J2 f _ _ e h
  split at h;·injection h with h;omega
  ·exact J2 f _ _ e h
theorem unq_err {s:List UInt8}{e:Int}(h:xJ s = .inl e):e=30∨e=31:=by
 unfold xJ at h;split at h;·injection h with h;omega
 split at h;·exact J2 _ _ _ _ h
 ·injection h with h;omega
theorem Qi (l:List UInt8)(c:UInt8):0≤indexByte l c↔l.contains c=true:=by
 induction l with
 | nil=>simp [indexByte]
 | cons b l ih=>
  unfold indexByte;have f:=indexByte_ge l c;by_cases h:b=c;·subst h;simp
  ·have a:(b == c)=false:=by simpa using h
   have h2:(b::l).contains c=l.contains c:=by
    simp only [List.contains_cons];have:(c == b)=false:=by simpa using fun e:c=b=>h e.symm
    rw [this,Bool.false_or]
   rw [a,h2];simp only [uM,if_false];by_cases h3:indexByte l c = -1;·rw [h3] at ih;simp only [h3,beq_self_eq_true,if_true];exact ih
   ·have d:(indexByte l c == -1)=false:=by simpa using h3
    rw [d];simp only [uM,if_false];rw [← ih];omega
def blanksL:List UInt8:=[32,9,10,13]
def zco:List UInt8:=[48,49,50,51,52,53,54,55,56,57]
theorem zca (c:UInt8):blanksL.contains c=vh c:=by
 have h:∀ n:Fin 256,blanksL.contains (UInt8.ofNat n.val)=vh (UInt8.ofNat n.val):=by decide +kernel
 have:=h ⟨c.toNat,c.toNat_lt⟩;simpa [KL] using this
theorem dig_contains (c:UInt8):zco.contains c=yh c:=by
 have h:∀ n:Fin 256,zco.contains (UInt8.ofNat n.val)=yh (UInt8.ofNat n.val):=by decide +kernel
 have:=h ⟨c.toNat,c.toNat_lt⟩;simpa [KL] using this
theorem trim_blanks (l:List UInt8):trimLeftS l blanksL=zo l:=by
 unfold trimLeftS zo;congr 1;funext c;exact zca c
theorem trim_digits (l:List UInt8):trimLeftS l zco=l.dropWhile yh:=by
 unfold trimLeftS;congr 1;funext c;exact dig_contains c
theorem take_run (l:List UInt8):l.takeWhile yh++l.dropWhile yh=l:=List.takeWhile_append_dropWhile
theorem run_len (l:List UInt8):(l.takeWhile yh).length=l.length-(l.dropWhile yh).length∧(l.dropWhile yh).length≤l.length:=by
 have:=congrArg List.length (take_run l);rw [XM] at this;omega
theorem left_app {α:Type}{a b l:List α}(h:a++b=l):l.take a.length=a∧l.drop a.length=b:=by subst h;simp
theorem run_take (l:List UInt8):l.take (l.takeWhile yh).length=l.takeWhile yh∧l.drop (l.takeWhile yh).length=l.dropWhile yh:=left_app (take_run l)
theorem drop_skip (s:List UInt8)(i:Nat):∃ k,i≤k∧(i≤s.length→k≤s.length)∧s.drop k=zo (s.drop i)∧k=i+((s.drop i).length-(zo (s.drop i)).length)∧(zo (s.drop i)).length≤(s.drop i).length:=by
 have a:(zo (s.drop i)).length≤(s.drop i).length:=(List.dropWhile_sublist _).length_le;refine⟨_,?_,?_,?_,rfl,a⟩;·omega
 ·intro h;rw [XW] at *;omega
 ·have h:(s.drop i).takeWhile vh++zo (s.drop i)=s.drop i:=List.takeWhile_append_dropWhile;have h2:=congrArg List.length h;rw [XM] at h2;rw [← uD];have e:(s.drop i).length-(zo (s.drop i)).length=((s.drop i).takeWhile vh).length:=Ws;rw [e];exact (left_app h).2
theorem sum_take (s:List UInt8)(k:Nat)(h:k<s.length):zU (s.take (k+1))=10*zU (s.take k)+(s[k].toNat-48):=by
 rw [XZ h];unfold zU;rw [List.foldl_append];rfl
theorem fold_ge:∀ (s:List UInt8) (a:Nat),a≤s.foldl (fun a c=>10*a+(c.toNat-48)) a
 | [],a=>XA
 | c::s,a=>by have:=fold_ge s (10*a+(c.toNat-48));simp only [List.foldl_cons];omega
theorem sum_mono (s:List UInt8)(k:Nat):zU (s.take k)≤zU s:=by
 conv=>rhs;rw [← uG k s]
 unfold zU;rw [List.foldl_append];exact fold_ge _ _
def jO {σ:Type}(step:List UInt8→Nat→σ→Sum Int (σ×List UInt8×Nat))(stop:UInt8):Nat→List UInt8→Nat→σ→Sum Int (σ×List UInt8×Nat)
 | 0,_,_,_=>.inl 50
 | f+1,s,c,acc=>
  match step s c acc with
  | .inl e=>.inl e
  | .inr (acc',r,c')=>if r.head? = some stop then .inr (acc',r.tail,c') else if r.head? = some 44 then jO step stop f r.tail c' acc' else .inl 50
def ya {σ:Type}(step:List UInt8→Nat→σ→Sum Int (σ×List UInt8×Nat))(stop:UInt8)(f:Nat)(s:List UInt8)(c:Nat)(acc:σ):Sum Int (σ×List UInt8×Nat):=
 if (zo s).head? = some stop then .inr (acc,(zo s).tail,c) else jO step stop f (zo s) c acc
section
variable {α : Type} (sub : List UInt8 → Nat → Sum Int (α × List UInt8 × Nat))
def zR (s:List UInt8)(c:Nat)(acc:List α):Sum Int (List α×List UInt8×Nat):=
 match sub s c with
 | .inl e=>.inl e
 | .inr (v,r,c')=>.inr (acc++[v],r,c')
def zO (s:List UInt8)(c:Nat)(acc:List (ByteArray×α)):Sum Int (List (ByteArray×α)×List UInt8×Nat):=
 match xJ (zo s) with
 | .inl e=>.inl e
 | .inr (k,r)=>
  if acc.any (fun p=>decide (p.1=zw k)) then .inl 53
  else if (zo r).head? = some 58 then
   match sub (zo r).tail c with
   | .inl e=>.inl e
   | .inr (v,r,c')=>.inr (acc++[(zw k,v)],r,c')
  else .inl 50
theorem zby:∀ (f:Nat) (s:List UInt8) (c:Nat) (acc:List α),YH sub f s c acc=jO (zR sub) 93 f s c acc
 | 0,_,_,_=>rfl
 | f+1,s,c,acc=>by
  unfold YH jO;have hs:zR sub s c acc=match sub s c with | .inl e=>.inl e | .inr (v,r,c')=>.inr (acc++[v],r,c'):=rfl
  rw [hs];cases sub s c with
  | inl e=>rfl
  | inr x=>obtain⟨v,r,c'⟩:=x;simp only [zby f]
theorem zaE:∀ (f:Nat) (s:List UInt8) (c:Nat) (acc:List (ByteArray×α)),bt sub f s c acc=jO (zO sub) 125 f s c acc
 | 0,_,_,_=>rfl
 | f+1,s,c,acc=>by
  unfold bt jO;have hs:zO sub s c acc=match xJ (zo s) with
   | .inl e=>.inl e
   | .inr (k,r)=>
    if acc.any (fun p=>decide (p.1=zw k)) then .inl 53
    else if (zo r).head? = some 58 then
     match sub (zo r).tail c with
     | .inl e=>.inl e
     | .inr (v,r,c')=>.inr (acc++[(zw k,v)],r,c')
    else .inl 50:=rfl
  rw [hs];cases xJ (zo s) with
  | inl e=>rfl
  | inr x=>
   obtain⟨k,r⟩:=x;simp only;by_cases a:acc.any (fun p=>decide (p.1=zw k))=true;·rw [XK a,XK a]
   ·rw [XJ a,XJ a];by_cases h2:(zo r).head? = some 58
    ·rw [XK h2,XK h2];cases sub (zo r).tail c with
     | inl e=>rfl
     | inr y=>obtain⟨v,b,c'⟩:=y;simp only [zaE f]
    ·rw [XJ h2,XJ h2]
theorem pRead_items (s:List UInt8)(c:Nat)(hd:s.head? = some 91):yK sub s c=match ya (zR sub) 93 (s.length+1) s.tail c [] with | .inl e=>.inl e | .inr (l,r,c')=>.inr (⟨5,0,⟨#[]⟩,l,[]⟩,r,c'):=by
 cases s with
 | nil=>cases hd
 | cons y t=>
  simp only [uH,Xt] at hd;subst hd;have b:yK sub (91::t) c=if (zo t).head? = some 93 then .inr (leaf 5 0 ⟨#[]⟩,(zo t).tail,c) else match YH sub ((91::t).length+1) (zo t) c [] with | .inl e=>.inl e | .inr (l,r,c')=>.inr (⟨5,0,⟨#[]⟩,l,[]⟩,r,c'):=by unfold yK;rw [XJ (by simp [kE,List.isPrefixOf]),XJ (by simp [kA,List.isPrefixOf]),XJ (by simp [xO,List.isPrefixOf]),XJ Wz,XK Wz];rfl
  rw [b,zby];show _=(match ya (zR sub) 93 ((91::t).length+1) t c [] with | .inl e=>.inl e | .inr (l,r,c')=>.inr (⟨5,0,⟨#[]⟩,l,[]⟩,r,c'):Sum Int (VS α×List UInt8×Nat));by_cases h:(zo t).head? = some 93;·have a:ya (zR sub) 93 ((91::t).length+1) t c []=Sum.inr ([],(zo t).tail,c):=XK h;rw [a];exact XK h
  ·have a:ya (zR sub) 93 ((91::t).length+1) t c []=jO (zR sub) 93 ((91::t).length+1) (zo t) c []:=XJ h;rw [a];exact XJ h
theorem pRead_map (s:List UInt8)(c:Nat)(hd:s.head? = some 123):yK sub s c=match ya (zO sub) 125 (s.length+1) s.tail c [] with | .inl e=>.inl e | .inr (l,r,c')=>.inr (⟨6,0,⟨#[]⟩,[],l⟩,r,c'):=by
 cases s with
 | nil=>cases hd
 | cons y t=>
  simp only [uH,Xt] at hd;subst hd;have b:yK sub (123::t) c=if (zo t).head? = some 125 then .inr (leaf 6 0 ⟨#[]⟩,(zo t).tail,c) else match bt sub ((123::t).length+1) (zo t) c [] with | .inl e=>.inl e | .inr (l,r,c')=>.inr (⟨6,0,⟨#[]⟩,[],l⟩,r,c'):=by unfold yK;rw [XJ (by simp [kE,List.isPrefixOf]),XJ (by simp [kA,List.isPrefixOf]),XJ (by simp [xO,List.isPrefixOf]),XJ Wz,XJ Wz,XK Wz];rfl
  rw [b,zaE];show _=(match ya (zO sub) 125 ((123::t).length+1) t c [] with | .inl e=>.inl e | .inr (l,r,c')=>.inr (⟨6,0,⟨#[]⟩,[],l⟩,r,c'):Sum Int (VS α×List UInt8×Nat));by_cases h:(zo t).head? = some 125;·have a:ya (zO sub) 125 ((123::t).length+1) t c []=Sum.inr ([],(zo t).tail,c):=XK h;rw [a];exact XK h
  ·have a:ya (zO sub) 125 ((123::t).length+1) t c []=jO (zO sub) 125 ((123::t).length+1) (zo t) c []:=XJ h;rw [a];exact XJ h
end
def PSt (At:Nat→Nat→Int→Prop)(S:ByteArray)(B:Nat)(x:Sum Int (List UInt8×Nat)):Prop:=
 ∃ (i c:Nat) (e:Int),At i c e∧i≤S.size∧c≤B∧(match x with
  | .inl e'=>e=e'∧0<e∧e≤1000
  | .inr (r,c')=>e=0∧S.data.toList.drop i=r∧c=c')
def PAt (w:World)(p:Nat)(S:ByteArray)(i c:Nat)(e:Int):Prop:=w.heap[p]? = some (.cells #[.string S,.int .i64 i,.int .i64 c,.int .i64 e] 109 (0,0))
def QAt (w:World)(p:Nat)(S:ByteArray)(i c:Nat)(e:Int):Prop:=w.heap[p]? = some (.cells #[.string S,.int .i64 i,.int .i64 e,.int .i64 c] 118 (0,0))
def PS (w:World)(p:Nat)(S:ByteArray)(B:Nat)(x:Sum Int (List UInt8×Nat)):Prop:=PSt (PAt w p S) S B x
def QS (w:World)(p:Nat)(S:ByteArray)(B:Nat)(x:Sum Int (List UInt8×Nat)):Prop:=PSt (QAt w p S) S B x
section
variable {w w' : World} {p B : Nat} {S : ByteArray} {x : Sum Int (List UInt8 × Nat)} {X : List Nat}
theorem PS.kept (h:PS w p S B x)(k:zb X w w')(hp:p ∉ X):PS w' p S B x:=by
 obtain⟨i,c,e,a,h2⟩:=h;exact⟨i,c,e,k.heap a hp,h2⟩
theorem QS.kept (h:QS w p S B x)(k:zb X w w')(hp:p ∉ X):QS w' p S B x:=by
 obtain⟨i,c,e,a,h2⟩:=h;exact⟨i,c,e,k.heap a hp,h2⟩
theorem PS.k0 (h:PS w p S B x)(k:zb [] w w'):PS w' p S B x:=h.kept k Wz
theorem QS.k0 (h:QS w p S B x)(k:zb [] w w'):QS w' p S B x:=h.kept k Wz
theorem PS.lt (h:PS w p S B x):p<w.heap.size:=by obtain⟨i,c,e,a,h2⟩:=h;exact lt_of_block a
theorem QS.lt (h:QS w p S B x):p<w.heap.size:=by obtain⟨i,c,e,a,h2⟩:=h;exact lt_of_block a
theorem PAt.cells {i c:Nat}{e:Int}(h:PAt w p S i c e):w.cell? ⟨p,0,none⟩=some (.string S)∧w.cell? ⟨p,1,none⟩=some (.int .i64 i)∧w.cell? ⟨p,2,none⟩=some (.int .i64 c)∧w.cell? ⟨p,3,none⟩=some (.int .i64 e)∧∀ o,w.frozen? ⟨p,o,none⟩=false:=
 ⟨za (o:=0) h rfl,za (o:=1) h rfl,za (o:=2) h rfl,za (o:=3) h rfl,fun o=>zh h⟩
theorem QAt.cells {i c:Nat}{e:Int}(h:QAt w p S i c e):w.cell? ⟨p,0,none⟩=some (.string S)∧w.cell? ⟨p,1,none⟩=some (.int .i64 i)∧w.cell? ⟨p,2,none⟩=some (.int .i64 e)∧w.cell? ⟨p,3,none⟩=some (.int .i64 c)∧∀ o,w.frozen? ⟨p,o,none⟩=false:=
 ⟨za (o:=0) h rfl,za (o:=1) h rfl,za (o:=2) h rfl,za (o:=3) h rfl,fun o=>zh h⟩
theorem PAt.set1 {i c:Nat}{e:Int}(h:PAt w p S i c e)(k:Nat):PAt (w.setCell ⟨p,1,none⟩ (.int .i64 (k:Nat))) p S k c e:=ze h rfl
theorem PAt.set2 {i c:Nat}{e:Int}(h:PAt w p S i c e)(k:Nat):PAt (w.setCell ⟨p,2,none⟩ (.int .i64 (k:Nat))) p S i k e:=ze h rfl
theorem PAt.set3 {i c:Nat}{e:Int}(h:PAt w p S i c e)(k:Int):PAt (w.setCell ⟨p,3,none⟩ (.int .i64 k)) p S i c k:=ze h rfl
theorem QAt.set1 {i c:Nat}{e:Int}(h:QAt w p S i c e)(k:Nat):QAt (w.setCell ⟨p,1,none⟩ (.int .i64 (k:Nat))) p S k c e:=ze h rfl
theorem QAt.set3 {i c:Nat}{e:Int}(h:QAt w p S i c e)(k:Nat):QAt (w.setCell ⟨p,3,none⟩ (.int .i64 (k:Nat))) p S i k e:=ze h rfl
theorem QAt.set2 {i c:Nat}{e:Int}(h:QAt w p S i c e)(k:Int):QAt (w.setCell ⟨p,2,none⟩ (.int .i64 k)) p S i c k:=ze h rfl
theorem yc (w:World)(p o:Nat)(v:Value):zb [p] w (w.setCell ⟨p,o,none⟩ v):=(zb.refl [p] w).setCell (p:=⟨p,o,none⟩) (.inl Wz) v
theorem PS.good {i c:Nat}(h:PAt w p S i c 0)(a:i≤S.size)(hc:c≤B):PS w p S B (.inr (S.data.toList.drop i,c)):=⟨i,c,0,h,a,hc,rfl,rfl,rfl⟩
theorem PS.bad {i c:Nat}{e:Int}(h:PAt w p S i c e)(b:i≤S.size)(hc:c≤B)(d:0<e)(a:e≤1000):PS w p S B (.inl e):=⟨i,c,e,h,b,hc,rfl,d,a⟩
theorem QS.good {i c:Nat}(h:QAt w p S i c 0)(a:i≤S.size)(hc:c≤B):QS w p S B (.inr (S.data.toList.drop i,c)):=⟨i,c,0,h,a,hc,rfl,rfl,rfl⟩
theorem QS.bad {i c:Nat}{e:Int}(h:QAt w p S i c e)(b:i≤S.size)(hc:c≤B)(d:0<e)(a:e≤1000):QS w p S B (.inl e):=⟨i,c,e,h,b,hc,rfl,d,a⟩
theorem PS.open_ok {r:List UInt8}{c:Nat}(h:PS w p S B (.inr (r,c))):∃ i,PAt w p S i c 0∧i≤S.size∧c≤B∧S.data.toList.drop i=r:=by
 obtain⟨i,c',e,a,h2,h3,rfl,b,rfl⟩:=h;exact⟨i,a,h2,h3,b⟩
theorem QS.open_ok {r:List UInt8}{c:Nat}(h:QS w p S B (.inr (r,c))):∃ i,QAt w p S i c 0∧i≤S.size∧c≤B∧S.data.toList.drop i=r:=by
 obtain⟨i,c',e,a,h2,h3,rfl,b,rfl⟩:=h;exact⟨i,a,h2,h3,b⟩
theorem PS.open_bad {e:Int}(h:PS w p S B (.inl e)):∃ i c:Nat,PAt w p S i c e∧i≤S.size∧c≤B∧0<e∧e≤1000:=by
 obtain⟨i,c',e',a,h2,h3,rfl,b,h6⟩:=h;exact⟨i,c',a,h2,h3,b,h6⟩
theorem QS.open_bad {e:Int}(h:QS w p S B (.inl e)):∃ i c:Nat,QAt w p S i c e∧i≤S.size∧c≤B∧0<e∧e≤1000:=by
 obtain⟨i,c',e',a,h2,h3,rfl,b,h6⟩:=h;exact⟨i,c',a,h2,h3,b,h6⟩
end
abbrev PX:=Sum Int (List UInt8×Nat)
def bh (e:Int):PX→PX | .inl x=>.inl x | .inr _=>.inl e
def jX:PX→List UInt8 | .inl _=>[] | .inr (r,_)=>r
def xg:PX→PX | .inl e=>.inl e | .inr (r,c)=>.inr (zo r,c)
def kh (w:List UInt8):PX→Bool | .inl _=>false | .inr (r,_)=>w.isPrefixOf r
def dropX (n:Nat):PX→PX | .inl e=>.inl e | .inr (r,c)=>.inr (r.drop n,c)
def Zy (w:List UInt8)(x:PX):PX:=if kh w x=true then dropX w.length x else x
def Zk (w:List UInt8)(x:PX):PX:=if kh w x=true then dropX w.length x else bh 50 x
def bo:PX→List UInt8 | .inl _=>[] | .inr (r,_)=>match xJ r with | .inl _=>[] | .inr (t,_)=>t
def Zb:PX→PX | .inl e=>.inl e | .inr (r,c)=>match xJ r with | .inl e=>.inl e | .inr (_,r')=>.inr (r',c)
theorem vj (a:UInt8)(r:List UInt8)(c:Nat):kh [a] (.inr (r,c))=decide (r.head? = some a):=by
 cases r with
 | nil=>rfl
 | cons b t=>
  show List.isPrefixOf [a] (b::t)=_;simp only [List.isPrefixOf,ub,uH,Xt];by_cases h:a=b;·subst h;simp
  ·have:¬ b=a:=fun e=>h e.symm;simp [h,this]
theorem vt {w:List UInt8}{x:PX}(h:kh w x=true):Zy w x=dropX w.length x:=XK h
theorem vi {w:List UInt8}{x:PX}(h:kh w x=false):Zy w x=x:=XJ (by rw [h];decide)
theorem QQ {w:List UInt8}{x:PX}(h:kh w x=true):Zk w x=dropX w.length x:=XK h
theorem Zr {w:List UInt8}{x:PX}(h:kh w x=false):Zk w x=bh 50 x:=XJ (by rw [h];decide)
def Z5 (r:List UInt8):Bool:=decide (r.head? = some 45)
def jf (r:List UInt8):List UInt8:=if Z5 r=true then r.tail else r
def qn (r:List UInt8):List UInt8:=(jf r).takeWhile yh
theorem zaj (r:List UInt8):kJ r=jE (Z5 r) (jf r):=by
 unfold kJ jf Z5;by_cases h:r.head? = some 45;·rw [XK h,XT h,XK rfl]
 ·rw [XJ h,XO h,XJ Wo]
theorem num_none {r:List UInt8}(h:qn r=[]):kJ r = .inl 50:=by
 rw [zaj];unfold jE;exact XK (.inl h)
theorem zbw {r:List UInt8}(h:qn r=48::t)(h2:Z5 r=true∨t≠[]):kJ r = .inl 50:=by
 rw [zaj];unfold jE;refine XK (.inr ⟨by show (qn r).head? = _;rw [h];rfl,?_⟩);rcases h2 with h2 | h2
 ·exact .inl h2
 ·refine .inr ?_;show 1<(qn r).length;rw [h,XP];have:=List.length_pos_iff.2 h2;omega
theorem num_fine {r:List UInt8}{d:UInt8}(h:qn r=d::t)(h2:¬ (d=48∧(Z5 r=true∨t≠[]))) : kJ r=if jI ((jf r).drop (qn r).length) [46,101,69]=true then .inl 51 else if 9007199254740991<zU (qn r) then .inl 52 else .inr (if Z5 r=true then -(zU (qn r):Int) else zU (qn r),(jf r).drop (qn r).length):=by
 rw [zaj];unfold jE;refine XJ ?_;rintro (h3 | ⟨h3,h4⟩);·have a:qn r=[]:=h3;rw [h] at a;cases a
 ·have a:(qn r).head? = some 48:=h3;have b:Z5 r=true∨1<(qn r).length:=h4;rw [h] at a b;simp only [uH,Xt] at a;refine h2 ⟨a,?_⟩;rcases b with h4 | h4
  ·exact .inl h4
  ·refine .inr fun e=>?_;rw [e] at h4;simp at h4
theorem numD_dig (r:List UInt8):∀ c,c∈qn r→48≤c.toNat∧c.toNat≤57:=by
 intro c hc;have h:yh c=true:=by have:=List.all_takeWhile (p:=yh) (l:=jf r);exact Xk.1 this c hc
 unfold yh at h;simpa using h
def QX {σ:Type}(step:List UInt8→Nat→σ→Sum Int (σ×List UInt8×Nat))(stop:UInt8)(R:Sum Int (σ×List UInt8×Nat))(s:List UInt8)(c:Nat)(acc:σ):Prop:=∃ f,s.length<f∧jO step stop f s c acc=R
section
variable {σ : Type} {step : List UInt8 → Nat → σ → Sum Int (σ × List UInt8 × Nat)} {stop : UInt8} {R : Sum Int (σ × List UInt8 × Nat)} {s r : List UInt8} {c c' : Nat} {acc acc' : σ}
theorem QX.bad (h:QX step stop R s c acc){e:Int}(b:step s c acc = .inl e):R = .inl e:=by
 obtain⟨f,a,h2⟩:=h
 match f,a with
 | f+1,a=>rw [← h2];unfold jO;rw [b]
theorem QX.done (h:QX step stop R s c acc)(b:step s c acc = .inr (acc',r,c'))(d:r.head? = some stop):R = .inr (acc',r.tail,c'):=by
 obtain⟨f,a,h2⟩:=h
 match f,a with
 | f+1,a=>rw [← h2];unfold jO;rw [b];exact XK d
theorem QX.next (h:QX step stop R s c acc)(i:step s c acc = .inr (acc',r,c'))(e:r.head? ≠ some stop)(b:r.head? = some 44)(j:r.length≤s.length):QX step stop R r.tail c' acc':=by
 obtain⟨f,d,h2⟩:=h
 match f,d with
 | f+1,d=>
  refine⟨f,?_,?_⟩
  ·cases r with
   | nil=>cases b
   | cons a t=>simp only [uE,XP] at *;omega
  ·rw [← h2];conv=>rhs;unfold jO
   rw [i];simp only;rw [XJ e,XK b]
theorem QX.other (h:QX step stop R s c acc)(b:step s c acc = .inr (acc',r,c'))(e:r.head? ≠ some stop)(d:r.head? ≠ some 44):R = .inl 50:=by
 obtain⟨f,a,h2⟩:=h
 match f,a with
 | f+1,a=>rw [← h2];unfold jO;rw [b];simp only;rw [XJ e,XJ d]
end
theorem Qr {s r:List UInt8}{c c':Nat}{v:V d}(h:zl d s c = .inr (v,r,c')):r.length≤s.length∧c'≤4096:=by
 obtain⟨a,h2,h3,b⟩:=Z6 d s c v r c' h;exact⟨Ws,h3⟩
theorem listStep_le {s r:List UInt8}{c c':Nat}{acc acc':List (V d)}(h:zR (zl d) s c acc = .inr (acc',r,c')):r.length≤s.length∧c'≤4096:=by
 unfold zR at h;split at h;·cases h
 ·rename_i v a c0 hv;injection h with h;injection h with h1 h2;injection h2 with h2 h3;subst h2;subst h3;exact Qr hv
theorem zaN {s r:List UInt8}{c c':Nat}{acc acc':List (ByteArray×V d)}(h:zO (zl d) s c acc = .inr (acc',r,c')):r.length≤s.length∧c'≤4096:=by
 unfold zO at h;split at h;·cases h
 ·rename_i k a e;split at h;·cases h
  split at h
  ·split at h;·cases h
   ·rename_i v i c1 hv;injection h with h;injection h with h1 h2;injection h2 with h2 h3;subst h2;subst h3;obtain⟨b,f⟩:=Qr hv;have h6:=(QI e).2;have j:=qQ s;have l:=qQ a;rw [uA] at b;exact⟨Ws,f⟩
  ·cases h
end Go.Proofs.YtjccecajigmfkaaGreatDoor

/- Parts of one proof, merged: XV XVL XVS XVP XVU. -/
import Derived.Test.YtjccecajigmfkaaGreatDoorSdA
import Derived.Lib.ValidU
import Derived.Lib.ItoaLen
import Derived.Lib.SpaceU
import Derived.Lib.DecodeN
set_option linter.all false
set_option maxHeartbeats 12800000
set_option maxRecDepth 10000
namespace Go.Proofs.YtjccecajigmfkaaGreatDoor
variable {b0 b1 b2 b3:Nat}{l:List UInt8}{n:Nat}
structure VS (α:Type) where
 kind:Int
 num:Int
 s:ByteArray
 l:List α
 m:List (ByteArray×α)
def V:Nat→Type
 | 0=>Empty
 | n+1=>VS (V n)
namespace VS
variable {α β : Type}
def kids (v:VS α):List α:=v.l++v.m.map (fun p=>p.2)
def map (f:α→β)(v:VS α):VS β:=⟨v.kind,v.num,v.s,v.l.map f,v.m.map (fun p=>(p.1,f p.2))⟩
theorem ext' {v w:VS α}(b:v.kind=w.kind)(h2:v.num=w.num)(h3:v.s=w.s)(a:v.l=w.l)(d:v.m=w.m):v=w:=by
 cases v;cases w;simp only at *;subst b;subst h2;subst h3;subst a;subst d;rfl
def keyBytes (v:VS α):Nat:=(v.m.map (fun p=>p.1.size)).sum
end VS
def kG:List Nat→Nat
 | []=>0
 | x::l=>max x (kG l)
theorem ZZ {l:List Nat}{b:Nat}:kG l≤b↔∀ x,x∈l→x≤b:=by
 induction l with
 | nil=>simp [kG]
 | cons x l ih=>
  simp only [kG,Nat.max_le,ih,XY,forall_eq_or_imp]
theorem zbF (a b:List Nat):kG (a++b)=max (kG a) (kG b):=by
 induction a with
 | nil=>simp [kG]
 | cons x a ih=>simp only [uU,kG,ih];omega
theorem le_maxL {l:List Nat}{x:Nat}(h:x∈l):x≤kG l:=ZZ.1 (XA) x h
def zM:(n:Nat)→V n→Nat
 | 0,_=>0
 | n+1,(v:VS (V n))=>1+kG (v.kids.map (zM n))
def zp:(n:Nat)→V n→Nat
 | 0,_=>0
 | n+1,(v:VS (V n))=>1+(v.kids.map (zp n)).sum
def zW:(n:Nat)→V n→Nat
 | 0,_=>0
 | n+1,(v:VS (V n))=>v.s.size+v.keyBytes+(v.kids.map (zW n)).sum
theorem sum_mem {l:List Nat}{x:Nat}(h:x∈l):x≤l.sum:=by
 induction l with
 | nil=>cases h
 | cons y l ih=>
  rw [uF]
  rcases XY.1 h with rfl | h
  ·omega
  ·have:=ih h;omega
theorem countV_kid {v:VS (V n)}{x:V n}(h:x∈v.kids):zp n x<zp (n+1) v:=by
 have:=sum_mem (Xm.2 ⟨x,h,rfl⟩:zp n x∈v.kids.map (zp n))
 show _<1+_
 omega
theorem bytesV_kid {v:VS (V n)}{x:V n}(h:x∈v.kids):zW n x≤zW (n+1) v:=by
 have:=sum_mem (Xm.2 ⟨x,h,rfl⟩:zW n x∈v.kids.map (zW n))
 show _≤v.s.size+v.keyBytes+_
 omega
theorem Kn {v:V n}:n=0∨1≤zp n v:=by
 cases n with
 | zero=>exact .inl rfl
 | succ n=>exact .inr (by show 1≤1+_;omega)
theorem Ka {α:Type}(f:α→Nat):∀ (l:List α),(∀ x,x∈l→1≤f x)→l.length≤(l.map f).sum
 | [],_=>XA
 | x::l,h=>by
  have:=Ka f l (fun y a=>h y (Xj _ a))
  have:=h x (Xp ..)
  simp only [Xf,uF,XP]
  omega
theorem JD (v:VS (V n)):v.l.length+v.m.length<zp (n+1) v:=by
 have h:v.kids.length≤(v.kids.map (zp n)).sum:=Ka _ _ (fun x _=>by
  rcases Kn (v:=x) with h | h
  ·subst h;exact nomatch x
  ·exact h)
 have e:v.kids.length=v.l.length+v.m.length:=by simp [VS.kids]
 show _<1+_
 omega
theorem YP {v:VS (V n)}{x:V n}(h:x∈v.l):x∈v.kids:=uu _ h
theorem Zj {v:VS (V n)}{p:ByteArray×V n}(h:p∈v.m):p.2∈v.kids:=VE _ (Xm.2 ⟨p,h,rfl⟩)
theorem key_le {v:VS (V n)}{p:ByteArray×V n}(h:p∈v.m):p.1.size≤zW (n+1) v:=by
 have:=sum_mem (Xm.2 ⟨p,h,rfl⟩:p.1.size∈v.m.map (fun p=>p.1.size))
 show _≤v.s.size+v.keyBytes+_
 unfold VS.keyBytes
 omega
def zP (n:Nat)(v:V n):Prop:=zp n v≤20000∧zW n v≤400000
theorem zP.kid {v:VS (V n)}(h:zP (n+1) v){x:V n}(a:x∈v.kids):zP n x:=
 ⟨X7 (Nat.le_of_lt (countV_kid a)) h.1,X7 (bytesV_kid a) h.2⟩
def up:(n:Nat)→V n→V (n+1)
 | 0,v=>nomatch v
 | n+1,(v:VS (V n))=>v.map (up n)
theorem zb1 {α:Type}{f g:α→Nat}:∀ (l:List α),(∀ x,x∈l→f x≤g x)→(l.map f).sum≤(l.map g).sum
 | [],_=>XA
 | x::l,h=>by
  have:=zb1 l (fun y a=>h y (Xj _ a))
  have:=h x (Xp ..)
  simp only [Xf,uF]
  omega
theorem sum_mul {α:Type}(c:Nat)(f:α→Nat):∀ (l:List α),(l.map (fun x=>c*f x)).sum=c*(l.map f).sum
 | []=>rfl
 | x::l=>by
  have:=sum_mul c f l
  simp only [Xf,uF,this,Nat.mul_add]
theorem zaY {α:Type}(f g:α→Nat):∀ (l:List α),(l.map (fun x=>f x+g x)).sum=(l.map f).sum+(l.map g).sum
 | []=>rfl
 | x::l=>by
  have:=zaY f g l
  simp only [Xf,uF,this]
  omega
theorem br (f:V n→Nat)(v:VS (V n)):(v.kids.map f).sum=(v.l.map f).sum+(v.m.map (fun p=>f p.2)).sum:=by
 simp [VS.kids,Function.comp_def]
def eqL {α:Type}(r:α→α→Bool):List α→List α→Bool
 | [],[]=>true
 | x::xs,y::ys=>r x y&&eqL r xs ys
 | _,_=>false
theorem eqL_iff {α:Type}{r:α→α→Bool}(h:∀ x y,r x y=true↔x=y):∀ (xs ys:List α),eqL r xs ys=true↔xs=ys
 | [],[]=>by simp [eqL]
 | [],y::ys=>by simp [eqL]
 | x::xs,[]=>by simp [eqL]
 | x::xs,y::ys=>by simp [eqL,h x y,eqL_iff h xs ys]
def eqV:(n:Nat)→V n→V n→Bool
 | 0,_,_=>true
 | n+1,(a:VS (V n)),(b:VS (V n))=>decide (a.kind=b.kind)&&decide (a.num=b.num)&&decide (a.s=b.s)&&eqL (eqV n) a.l b.l&&eqL (fun p q=>decide (p.1=q.1)&&eqV n p.2 q.2) a.m b.m
theorem eqV_iff:∀ (n:Nat) (a b:V n),eqV n a b=true↔a=b
 | 0,a,_=>nomatch a
 | n+1,(a:VS (V n)),(b:VS (V n))=>by
  have ih:=eqV_iff n
  have e:eqV (n+1) a b=(decide (a.kind=b.kind)&&decide (a.num=b.num)&&decide (a.s=b.s)&&eqL (eqV n) a.l b.l&&eqL (fun p q=>decide (p.1=q.1)&&eqV n p.2 q.2) a.m b.m):=rfl
  have hp:∀ p q:ByteArray×V n,(decide (p.1=q.1)&&eqV n p.2 q.2)=true↔p=q:=fun p q=>by
   rw [XR,decide_eq_true_iff,ih p.2 q.2]
   exact⟨fun h=>Prod.ext h.1 h.2,fun h=>by rw [h];exact⟨rfl,rfl⟩⟩
  rw [e]
  simp only [XR,decide_eq_true_iff,eqL_iff ih,eqL_iff hp]
  exact⟨fun⟨⟨⟨⟨h1,h2⟩,h3⟩,h4⟩,h5⟩=>VS.ext' h1 h2 h3 h4 h5,fun h=>by rw [h];exact⟨⟨⟨⟨rfl,rfl⟩,rfl⟩,rfl⟩,rfl⟩⟩
def zv (s:ByteArray):Bool:=Lib.validD s.data.toList
def ZC (s:ByteArray):Bool:=decide (s=⟨#[]⟩)
def xe {α:Type}(m:List (ByteArray×α)):Bool:=m.all (fun p=>zv p.1)&&decide ((m.map (fun p=>p.1)).Nodup)
def zy {α:Type}(v:VS α):Bool:=
 if v.kind=1 then decide (v.num=0)&&ZC v.s&&v.l.isEmpty&&v.m.isEmpty
 else if v.kind=2 then decide (v.num=0∨v.num=1)&&ZC v.s&&v.l.isEmpty&&v.m.isEmpty
 else if v.kind=3 then decide (-9007199254740991≤v.num∧v.num≤9007199254740991)&&ZC v.s&&v.l.isEmpty&&v.m.isEmpty
 else if v.kind=4 then zv v.s&&decide (v.num=0)&&v.l.isEmpty&&v.m.isEmpty
 else if v.kind=5 then decide (v.num=0)&&ZC v.s&&v.m.isEmpty
 else if v.kind=6 then xe v.m&&decide (v.num=0)&&ZC v.s&&v.l.isEmpty
 else false
def zn:(n:Nat)→V n→Bool
 | 0,_=>true
 | n+1,(v:VS (V n))=>zy v&&v.kids.all (zn n)
def zV (n:Nat)(v:V n):Int:=if 12<zM n v then 41 else if 4096<zp n v then 42 else if zn n v then 0 else 40
theorem ql {v:V n}:zV n v=0↔zM n v≤12∧zp n v≤4096∧zn n v=true:=by
 unfold zV
 split
 ·constructor
  ·intro h;cases h
  ·intro h;omega
 ·split
  ·constructor
   ·intro h;cases h
   ·intro h;omega
  ·split
   ·rename_i a h2 h3;exact⟨fun _=>⟨Ws,Ws,h3⟩,fun _=>rfl⟩
   ·rename_i a h2 h3;exact⟨(fun h=>by cases h),(fun h=>absurd h.2.2 h3)⟩
theorem vY {v:VS (V n)}(h:zn (n+1) v=true){x:V n}(a:x∈v.kids):zn n x=true:=by
 have e:zn (n+1) v=(zy v&&v.kids.all (zn n)):=rfl
 rw [e,XR] at h
 exact Xk.1 h.2 x a
theorem bc {v:VS (V n)}(h:zn (n+1) v=true):zy v=true:=by
 have e:zn (n+1) v=(zy v&&v.kids.all (zn n)):=rfl
 rw [e,XR] at h
 exact h.1
theorem vZ {α:Type}{v:VS α}(h:zy v=true) : (v.kind=1∧v.num=0∧v.s=⟨#[]⟩∧v.l=[]∧v.m=[])∨(v.kind=2∧(v.num=0∨v.num=1)∧v.s=⟨#[]⟩∧v.l=[]∧v.m=[])∨(v.kind=3∧(-9007199254740991≤v.num∧v.num≤9007199254740991)∧v.s=⟨#[]⟩∧v.l=[]∧v.m=[])∨(v.kind=4∧v.num=0∧zv v.s=true∧v.l=[]∧v.m=[])∨(v.kind=5∧v.num=0∧v.s=⟨#[]⟩∧v.m=[])∨(v.kind=6∧v.num=0∧v.s=⟨#[]⟩∧v.l=[]∧xe v.m=true):=by
 unfold zy ZC at h
 split at h
 ·rename_i e;simp only [XR,decide_eq_true_iff,VM] at h;exact .inl ⟨e,h.1.1.1,h.1.1.2,h.1.2,h.2⟩
 split at h
 ·rename_i e;simp only [XR,decide_eq_true_iff,VM] at h;exact .inr (.inl ⟨e,h.1.1.1,h.1.1.2,h.1.2,h.2⟩)
 split at h
 ·rename_i e;simp only [XR,decide_eq_true_iff,VM] at h;exact .inr (.inr (.inl ⟨e,h.1.1.1,h.1.1.2,h.1.2,h.2⟩))
 split at h
 ·rename_i e;simp only [XR,decide_eq_true_iff,VM] at h;exact .inr (.inr (.inr (.inl ⟨e,h.1.1.2,h.1.1.1,h.1.2,h.2⟩)))
 split at h
 ·rename_i e;simp only [XR,decide_eq_true_iff,VM] at h;exact .inr (.inr (.inr (.inr (.inl ⟨e,h.1.1,h.1.2,h.2⟩))))
 split at h
 ·rename_i e;simp only [XR,decide_eq_true_iff,VM] at h;exact .inr (.inr (.inr (.inr (.inr ⟨e,h.1.1.2,h.1.2,h.2,h.1.1.1⟩))))
 ·cases h
def leK {α:Type}(a b:ByteArray×α):Bool:=decide (a.1.data.toList≤b.1.data.toList)
def zK:(n:Nat)→V n→V n
 | 0,v=>v
 | n+1,(v:VS (V n))=>(⟨v.kind,v.num,v.s,v.l.map (zK n),(v.m.map (fun p=>(p.1,zK n p.2))).mergeSort leK⟩:VS (V n))
theorem leK_trans {α:Type}(a b c:ByteArray×α)(d:leK a b=true)(h2:leK b c=true):leK a c=true:=by
 simp only [leK,Xa] at *
 exact List.le_trans d h2
theorem leK_total {α:Type}(a b:ByteArray×α):(leK a b || leK b a)=true:=by
 simp only [leK,uW,Xa]
 exact List.le_total _ _
theorem Q6 {x y:ByteArray}(h:x.data.toList=y.data.toList):x=y:=by
 cases x;cases y
 simp only [ByteArray.mk.injEq] at *
 exact Array.toList_inj.1 h
theorem sorted_unique {α:Type}{a b:List (ByteArray×α)}(hp:a.Perm b)(s:a.Pairwise (fun x y=>leK x y=true))(r:b.Pairwise (fun x y=>leK x y=true))(n:(a.map (fun p=>p.1)).Nodup):a=b:=by
 refine List.Perm.eq_of_pairwise (le:=fun x y=>leK x y=true) (fun x y t q k h2=>?_) s r hp
 simp only [leK,Xa] at k h2
 have e:x.1=y.1:=Q6 (List.le_antisymm k h2)
 have d:y∈a:=hp.mem_iff.2 q
 obtain⟨i,l,rfl⟩:=uI t
 obtain⟨j,m,rfl⟩:=uI d
 have f:i=j:=by
  rcases Nat.lt_trichotomy i j with h | h | h
  ·exact absurd e (by
    have:=(ut.1 n) i j (by simpa using l) (by simpa using m) h
    simpa using this)
  ·exact h
  ·exact absurd e.symm (by
    have:=(ut.1 n) j i (by simpa using m) (by simpa using l) h
    simpa using this)
 subst f;rfl
def vO (n:Nat):UInt8:=UInt8.ofNat (if n<10 then 48+n else 87+n)
def yn (c:UInt8):List UInt8:=if c.toNat<32 then [92,117,48,48,vO (c.toNat/16),vO (c.toNat%16)] else if c=34∨c=92 then [92,c] else [c]
def yJ (s:List UInt8):List UInt8:=34::(s.flatMap yn++[34])
def zS:List (List UInt8)→List UInt8
 | []=>[]
 | [x]=>x
 | x::y::l=>x++(44::zS (y::l))
def zr:(n:Nat)→V n→List UInt8
 | 0,_=>[]
 | n+1,(v:VS (V n))=>
  if v.kind=1 then [110,117,108,108]
  else if v.kind=2 then (if v.num=1 then [116,114,117,101] else [102,97,108,115,101])
  else if v.kind=3 then Lib.itoa v.num
  else if v.kind=4 then yJ v.s.data.toList
  else if v.kind=5 then 91::(zS (v.l.map (zr n))++[93])
  else 123::(zS (v.m.map (fun p=>yJ p.1.data.toList++(58::zr n p.2)))++[125])
def xV (n:Nat)(v:V n):List UInt8×Int:=
 if zV n v≠0 then ([],zV n v) else if 262144<(zr n (zK n v)).length then ([],3) else (zr n (zK n v),0)
def zw (l:List UInt8):ByteArray:=⟨l.toArray⟩
theorem zJ (l:List UInt8):(zw l).data.toList=l:=by simp [zw]
theorem JH (s:ByteArray):zw s.data.toList=s:=by cases s;simp [zw]
def vh (c:UInt8):Bool:=c == 32 || c == 9 || c == 10 || c == 13
def zo (s:List UInt8):List UInt8:=s.dropWhile vh
def yh (c:UInt8):Bool:=decide (48≤c.toNat)&&decide (c.toNat≤57)
def km (c:UInt8):Option Nat:=
 if 48≤c.toNat∧c.toNat≤57 then some (c.toNat-48) else if 97≤c.toNat∧c.toNat≤102 then some (c.toNat-87) else if 65≤c.toNat∧c.toNat≤70 then some (c.toNat-55) else none
def zaP (a b c d:UInt8):Option Nat:=
 match km a,km b,km c,km d with
 | some x,some y,some z,some t=>some (((x*16+y)*16+z)*16+t)
 | _,_,_,_=>none
def qh:List UInt8→Option Nat
 | x::y::a::b::c::d::_=>if x=92∧y=117 then zaP a b c d else none
 | _=>none
def utfB (r:Int):List UInt8:=(Utf8.encode r).data.toList
def yi (r:Nat):List UInt8:=utfB r
def jl (s:List UInt8):Option (List UInt8×Nat):=
 match s with
 | _::y::_=>
  if y=34 then some ([34],2) else if y=92 then some ([92],2) else if y=47 then some ([47],2) else if y=98 then some ([8],2) else if y=102 then some ([12],2)
  else if y=110 then some ([10],2) else if y=114 then some ([13],2) else if y=116 then some ([9],2)
  else match qh s with
   | none=>none
   | some x=>
    if x<55296∨57343<x then some (yi x,6)
    else if 56319<x then none
    else match qh (s.drop 6) with
     | none=>none
     | some z=>if 56320≤z∧z≤57343 then some (yi (65536+(x-55296)*1024+(z-56320)),12) else none
 | _=>none
def yQ:Nat→List UInt8→List UInt8→Sum Int (List UInt8×List UInt8)
 | 0,_,_=>.inl 31
 | f+1,s,acc=>
  match s with
  | []=>.inl 31
  | c::r=>
   if c=34 then .inr (acc,r)
   else if c.toNat<32 then .inl 31
   else if c=92 then
    match jl s with
    | none=>.inl 31
    | some (b,n)=>yQ f (s.drop n) (acc++b)
   else if (Lib.decodeL s).1=65533∧(Lib.decodeL s).2=1 then .inl 30
   else yQ f (s.drop (Lib.decodeL s).2) (acc++s.take (Lib.decodeL s).2)
def xJ (s:List UInt8):Sum Int (List UInt8×List UInt8):=
 match s with
 | []=>.inl 31
 | c::r=>if c=34 then yQ (r.length+1) r [] else .inl 31
def zU (s:List UInt8):Nat:=s.foldl (fun a c=>10*a+(c.toNat-48)) 0
def jI (s:List UInt8)(l:List UInt8):Bool:=match s with | []=>false | c::_=>l.contains c
def jE (minus:Bool)(s:List UInt8):Sum Int (Int×List UInt8):=
 let ds:=s.takeWhile yh
 if ds=[]∨(ds.head? = some 48∧(minus=true∨1<ds.length)) then .inl 50
 else if jI (s.drop ds.length) [46,101,69] then .inl 51
 else if 9007199254740991<zU ds then .inl 52
 else .inr (if minus then -(zU ds:Int) else zU ds,s.drop ds.length)
def kJ (s:List UInt8):Sum Int (Int×List UInt8):=if s.head? = some 45 then jE true s.tail else jE false s
def kE:List UInt8:=[110,117,108,108]
def kA:List UInt8:=[116,114,117,101]
def xO:List UInt8:=[102,97,108,115,101]
def yu (s:List UInt8):Bool:=kE.isPrefixOf s || kA.isPrefixOf s || xO.isPrefixOf s || jI s [34,91,123,45,48,49,50,51,52,53,54,55,56,57]
def leaf {α:Type}(k n:Int)(s:ByteArray):VS α:=⟨k,n,s,[],[]⟩
section
variable {α : Type} (sub : List UInt8 → Nat → Sum Int (α × List UInt8 × Nat))
def YH:Nat→List UInt8→Nat→List α→Sum Int (List α×List UInt8×Nat)
 | 0,_,_,_=>.inl 50
 | f+1,s,c,acc=>
  match sub s c with
  | .inl e=>.inl e
  | .inr (v,r,c')=>if r.head? = some 93 then .inr (acc++[v],r.tail,c') else if r.head? = some 44 then YH f r.tail c' (acc++[v]) else .inl 50
def bt:Nat→List UInt8→Nat→List (ByteArray×α)→Sum Int (List (ByteArray×α)×List UInt8×Nat)
 | 0,_,_,_=>.inl 50
 | f+1,s,c,acc=>
  match xJ (zo s) with
  | .inl e=>.inl e
  | .inr (k,r)=>
   if acc.any (fun p=>decide (p.1=zw k)) then .inl 53
   else if (zo r).head? = some 58 then
    match sub (zo r).tail c with
    | .inl e=>.inl e
    | .inr (v,r,c')=>if r.head? = some 125 then .inr (acc++[(zw k,v)],r.tail,c') else if r.head? = some 44 then bt f r.tail c' (acc++[(zw k,v)]) else .inl 50
   else .inl 50
def yK (s:List UInt8)(c:Nat):Sum Int (VS α×List UInt8×Nat):=
 if kE.isPrefixOf s then .inr (leaf 1 0 ⟨#[]⟩,s.drop 4,c)
 else if kA.isPrefixOf s then .inr (leaf 2 1 ⟨#[]⟩,s.drop 4,c)
 else if xO.isPrefixOf s then .inr (leaf 2 0 ⟨#[]⟩,s.drop 5,c)
 else if s.head? = some 34 then (match xJ s with | .inl e=>.inl e | .inr (t,r)=>.inr (leaf 4 0 (zw t),r,c))
 else if s.head? = some 91 then
  (if (zo s.tail).head? = some 93 then .inr (leaf 5 0 ⟨#[]⟩,(zo s.tail).tail,c)
  else match YH sub (s.length+1) (zo s.tail) c [] with | .inl e=>.inl e | .inr (l,r,c')=>.inr (⟨5,0,⟨#[]⟩,l,[]⟩,r,c'))
 else if s.head? = some 123 then
  (if (zo s.tail).head? = some 125 then .inr (leaf 6 0 ⟨#[]⟩,(zo s.tail).tail,c)
  else match bt sub (s.length+1) (zo s.tail) c [] with | .inl e=>.inl e | .inr (m,r,c')=>.inr (⟨6,0,⟨#[]⟩,[],m⟩,r,c'))
 else match kJ s with | .inl e=>.inl e | .inr (n,r)=>.inr (leaf 3 n ⟨#[]⟩,r,c)
end
def zl:(d:Nat)→List UInt8→Nat→Sum Int (V d×List UInt8×Nat)
 | 0,s,c=>.inl (if yu (zo s)=false then 50 else if 4096<c+1 then 42 else 41)
 | d+1,s,c=>
  if yu (zo s)=false then .inl 50 else if 4096<c+1 then .inl 42
  else match yK (zl d) (zo s) (c+1) with | .inl e=>.inl e | .inr (v,r,c')=>.inr (v,zo r,c')
def yH (b:List UInt8):Sum Int (V 12):=
 if 262144<b.length then .inl 3
 else match zl 12 b 0 with | .inl e=>.inl e | .inr (v,r,_)=>if r=[] then .inr v else .inl 50
open Go.Lib (decodeN decodeL)
def gb (l:List UInt8)(i:Nat):Nat:=(l.getD i 0).toNat
theorem get_getD (l:List UInt8)(i:Nat):((⟨l.toArray⟩:ByteArray).get! i)=l.getD i 0:=by
 show l.toArray[i]! = _;rw [Xq,getElem!_def];simp only [uB];cases l[i]? <;> rfl
theorem ke (l:List UInt8):decodeL l=decodeN l.length (gb l 0) (gb l 1) (gb l 2) (gb l 3):=by
 unfold decodeL;rw [Lib.decode_at];have a:(⟨l.toArray⟩:ByteArray).size=l.length:=by simp [ByteArray.size]
 simp only [a,Nat.sub_zero,Xd,get_getD,gb]
theorem gb_app (l x:List UInt8)(i:Nat)(h:i<l.length):gb (l++x) i=gb l i:=by
 unfold gb;rw [Xq,Xq,Xz h]
theorem YJ (l:List UInt8)(i:Nat):gb l i<256:=(l.getD i 0).toNat_lt
theorem zce (b:1≤n)(a:b1<256)(h2:b2<256)(h3:b3<256)(e:b0<256)(h:¬((decodeN n b0 b1 b2 b3).1=65533∧(decodeN n b0 b1 b2 b3).2=1)) : (b0<128∧decodeN n b0 b1 b2 b3=(b0,1))∨(128≤b0∧b0/32=6∧2≤n∧b1/64=2∧128≤b0%32*64+b1%64∧decodeN n b0 b1 b2 b3=(b0%32*64+b1%64,2))∨(128≤b0∧b0/16=14∧3≤n∧b1/64=2∧b2/64=2∧2048≤b0%16*4096+b1%64*64+b2%64∧(b0%16*4096+b1%64*64+b2%64<55296∨57344≤b0%16*4096+b1%64*64+b2%64)∧decodeN n b0 b1 b2 b3=(b0%16*4096+b1%64*64+b2%64,3))∨(128≤b0∧b0/8=30∧4≤n∧b1/64=2∧b2/64=2∧b3/64=2∧65536≤b0%8*262144+b1%64*4096+b2%64*64+b3%64∧b0%8*262144+b1%64*4096+b2%64*64+b3%64≤1114111∧decodeN n b0 b1 b2 b3=(b0%8*262144+b1%64*4096+b2%64*64+b3%64,4)):=by
 unfold decodeN at h ⊢;by_cases c0:b0<128;·rw [XK c0];exact .inl ⟨c0,rfl⟩
 rw [XJ c0] at h ⊢;by_cases c1:b0/32=6∧(1<n∧b1/64=2)
 ·rw [XK c1] at h ⊢;by_cases d:b0%32*64+b1%64≥128;·rw [XK d];exact .inr (.inl ⟨Ws,c1.1,Ws,c1.2.2,d,rfl⟩)
  ·rw [XJ d] at h;exact absurd ⟨rfl,rfl⟩ h
 rw [XJ c1] at h ⊢;by_cases c2:b0/16=14∧(1<n∧b1/64=2)∧(2<n∧b2/64=2)
 ·rw [XK c2] at h ⊢;split at h;·rename_i d;rw [XK d];exact .inr (.inr (.inl ⟨Ws,c2.1,Ws,c2.2.1.2,c2.2.2.2,d.1,Ws,rfl⟩))
  ·exact absurd ⟨rfl,rfl⟩ h
 rw [XJ c2] at h ⊢;by_cases c3:b0/8=30∧(1<n∧b1/64=2)∧(2<n∧b2/64=2)∧(3<n∧b3/64=2)
 ·rw [XK c3] at h ⊢;split at h;·rename_i d;rw [XK d];exact .inr (.inr (.inr ⟨Ws,c3.1,Ws,c3.2.1.2,c3.2.2.1.2,c3.2.2.2.2,d.1,Ws,rfl⟩))
  ·exact absurd ⟨rfl,rfl⟩ h
 rw [XJ c3] at h;exact absurd ⟨rfl,rfl⟩ h
theorem decodeN_more {m c1 c2 c3:Nat}(t:1≤n)(hm:(decodeN n b0 b1 b2 b3).2≤m)(r:b1<256)(h2:b2<256)(h3:b3<256)(s:b0<256)(h:¬((decodeN n b0 b1 b2 b3).1=65533∧(decodeN n b0 b1 b2 b3).2=1))(a:1<(decodeN n b0 b1 b2 b3).2→c1=b1)(i:2<(decodeN n b0 b1 b2 b3).2→c2=b2)(l:3<(decodeN n b0 b1 b2 b3).2→c3=b3):decodeN m b0 c1 c2 c3=decodeN n b0 b1 b2 b3:=by
 rcases zce t r h2 h3 s h with ⟨j,e⟩ | ⟨j,d,p,f,b,e⟩ | ⟨j,d,p,f,b,k,q,e⟩ | ⟨j,d,p,f,b,k,q,u,e⟩;all_goals
  rw [e] at hm a i l;simp only at hm a i l
 ·rw [e];unfold decodeN;rw [XK j]
 ·rw [e,a Ws];unfold decodeN;rw [XJ Ws,XK ⟨d,Ws,f⟩,XK b]
 ·rw [e,a Ws,i Ws];unfold decodeN;rw [XJ Ws,XJ Ws,XK ⟨d,⟨Ws,f⟩,Ws,b⟩,XK ⟨k,Ws⟩]
 ·rw [e,a Ws,i Ws,l Ws];unfold decodeN;rw [XJ Ws,XJ Ws,XJ Ws,XK ⟨d,⟨Ws,f⟩,⟨Ws,b⟩,Ws,k⟩,XK ⟨q,Ws⟩]
theorem take_two (h:2≤l.length):l.take 2=[l.getD 0 0,l.getD 1 0]:=by
 match l,h with
 | a::b::t,_=>rfl
theorem zb2 (h:3≤l.length):l.take 3=[l.getD 0 0,l.getD 1 0,l.getD 2 0]:=by
 match l,h with
 | a::b::c::t,_=>rfl
theorem take_four (h:4≤l.length):l.take 4=[l.getD 0 0,l.getD 1 0,l.getD 2 0,l.getD 3 0]:=by
 match l,h with
 | a::b::c::d::t,_=>rfl
theorem enc_aux (c:Nat):(if c<128 then (⟨#[UInt8.ofNat c]⟩:ByteArray) else if c<2048 then ⟨#[UInt8.ofNat (192+c/64),UInt8.ofNat (128+c%64)]⟩ else if c<65536 then ⟨#[UInt8.ofNat (224+c/4096),UInt8.ofNat (128+c/64%64),UInt8.ofNat (128+c%64)]⟩ else ⟨#[UInt8.ofNat (240+c/262144),UInt8.ofNat (128+c/4096%64),UInt8.ofNat (128+c/64%64),UInt8.ofNat (128+c%64)]⟩).data.toList = if c<128 then [UInt8.ofNat c] else if c<2048 then [UInt8.ofNat (192+c/64),UInt8.ofNat (128+c%64)] else if c<65536 then [UInt8.ofNat (224+c/4096),UInt8.ofNat (128+c/64%64),UInt8.ofNat (128+c%64)] else [UInt8.ofNat (240+c/262144),UInt8.ofNat (128+c/4096%64),UInt8.ofNat (128+c/64%64),UInt8.ofNat (128+c%64)]:=by
 by_cases c1:c<128;·rw [XK c1,XK c1]
 rw [XJ c1,XJ c1];by_cases c2:c<2048;·rw [XK c2,XK c2]
 rw [XJ c2,XJ c2];by_cases c3:c<65536;·rw [XK c3,XK c3]
 rw [XJ c3,XJ c3]
theorem valid_of (c:Nat)(h:c<55296∨(57344≤c∧c≤1114111)):Utf8.valid (c:Int)=true:=by
 unfold Utf8.valid;rw [uW,XR,XR];simp only [Xa];omega
theorem enc_of (r:Int)(h:Utf8.valid r=true):utfB r=if r.toNat<128 then [UInt8.ofNat r.toNat] else if r.toNat<2048 then [UInt8.ofNat (192+r.toNat/64),UInt8.ofNat (128+r.toNat%64)] else if r.toNat<65536 then [UInt8.ofNat (224+r.toNat/4096),UInt8.ofNat (128+r.toNat/64%64),UInt8.ofNat (128+r.toNat%64)] else [UInt8.ofNat (240+r.toNat/262144),UInt8.ofNat (128+r.toNat/4096%64),UInt8.ofNat (128+r.toNat/64%64),UInt8.ofNat (128+r.toNat%64)]:=by
 unfold utfB Utf8.encode;rw [XK h];exact enc_aux _
theorem kq (c:Nat)(h:c<55296∨(57344≤c∧c≤1114111)):yi c = if c<128 then [UInt8.ofNat c] else if c<2048 then [UInt8.ofNat (192+c/64),UInt8.ofNat (128+c%64)] else if c<65536 then [UInt8.ofNat (224+c/4096),UInt8.ofNat (128+c/64%64),UInt8.ofNat (128+c%64)] else [UInt8.ofNat (240+c/262144),UInt8.ofNat (128+c/4096%64),UInt8.ofNat (128+c/64%64),UInt8.ofNat (128+c%64)]:=by
 have e:=enc_of c (valid_of c h);rw [ux] at e;exact e
structure KE (l:List UInt8)(c n:Nat):Prop where
 eq:decodeL l=(c,n)
 le:n≤l.length
 pos:1≤n
 one:n=1→gb l 0<128∧c=gb l 0
 high:2≤n→∀ b,b∈l.take n→128≤b.toNat
 rune:yi c=l.take n
 valid:c<55296∨(57344≤c∧c≤1114111)
 more:∀ x,decodeL (l.take n++x)=(c,n)
theorem vo (z:l≠[])(h:¬((decodeL l).1=65533∧(decodeL l).2=1)):KE l (decodeL l).1 (decodeL l).2:=by
 have n:1≤l.length:=by cases l with | nil=>exact absurd rfl z | cons a t=>simp
 have d:1≤(decodeL l).2→(decodeL l).2≤l.length→∀ x,decodeL (l.take (decodeL l).2++x)=decodeL l:=by
  intro K J x;have A:(l.take (decodeL l).2).length=(decodeL l).2:=by rw [Xe];omega
  have f:∀ i,i<(decodeL l).2→gb (l.take (decodeL l).2++x) i=gb l i:=fun i G=>by rw [gb_app _ x i Ws];unfold gb;rw [Xq,Xq,List.getElem?_take_of_lt G]
  revert A f;generalize e:l.take (decodeL l).2++x=y;intro A f;have r:(decodeL l).2≤y.length:=by rw [← e,XM];omega
  rw [ke y,f 0 Ws];rw [ke l] at h f r ⊢;exact decodeN_more n r (YJ _ _) (YJ _ _) (YJ _ _) (YJ _ _) h (fun q=>f 1 q) (fun q=>f 2 q) (fun q=>f 3 q)
 have b0:l.getD 0 0=UInt8.ofNat (gb l 0):=(uR).symm;have b1:l.getD 1 0=UInt8.ofNat (gb l 1):=(uR).symm;have b2:l.getD 2 0=UInt8.ofNat (gb l 2):=(uR).symm;have b3:l.getD 3 0=UInt8.ofNat (gb l 3):=(uR).symm;have m:(l.getD 0 0).toNat=gb l 0:=rfl;have p:(l.getD 1 0).toNat=gb l 1:=rfl;have B:(l.getD 2 0).toNat=gb l 2:=rfl;have E:(l.getD 3 0).toNat=gb l 3:=rfl;have l0:=YJ l 0;have F:=YJ l 1;have D:=YJ l 2;have I:=YJ l 3;have v:=h;rw [ke] at v;rcases zce n F D I l0 v with ⟨k,e⟩ | ⟨k,s,j,u,w,e⟩ | ⟨k,s,j,u,w,C,H,e⟩ | ⟨k,s,j,u,w,C,H,L,e⟩
 all_goals
  rw [← ke] at e;rw [e] at d ⊢;simp only at d ⊢
 ·refine⟨e,n,XA,fun _=>⟨k,rfl⟩,fun h=>by omega,?_,Ws,d Ws Ws⟩;rw [kq _ Ws,XK k];cases l with
  | nil=>exact absurd rfl z
  | cons a t=>simp [gb]
 ·refine⟨e,j,Ws,fun h=>by omega,fun _ b f=>?_,?_,Ws,d Ws Ws⟩
  ·rw [take_two j] at f;simp only [XY,Xi,uC] at f;rcases f with rfl | rfl
   ·rw [m];omega
   ·rw [p];omega
  ·rw [kq _ Ws,XJ Ws,XK Ws,take_two j,b0,b1];congr 2 <;> congr 1 <;> omega
 ·refine⟨e,j,Ws,fun h=>by omega,fun _ b f=>?_,?_,Ws,d Ws Ws⟩
  ·rw [zb2 j] at f;simp only [XY,Xi,uC] at f;rcases f with rfl | rfl | rfl
   ·rw [m];omega
   ·rw [p];omega
   ·rw [B];omega
  ·rw [kq _ Ws,XJ Ws,XJ Ws,XK Ws,zb2 j,b0,b1,b2];congr 1;·congr 1;omega
   ·congr 1;·congr 1;omega
    ·congr 1;congr 1;omega
 ·refine⟨e,j,Ws,fun h=>by omega,fun _ b f=>?_,?_,Ws,d Ws Ws⟩
  ·rw [take_four j] at f;simp only [XY,Xi,uC] at f;rcases f with rfl | rfl | rfl | rfl
   ·rw [m];omega
   ·rw [p];omega
   ·rw [B];omega
   ·rw [E];omega
  ·rw [kq _ Ws,XJ Ws,XJ Ws,XJ Ws,take_four j,b0,b1,b2,b3];congr 1;·congr 1;omega
   ·congr 1;·congr 1;omega
    ·congr 1;·congr 1;omega
     ·congr 1;congr 1;omega
end Go.Proofs.YtjccecajigmfkaaGreatDoor

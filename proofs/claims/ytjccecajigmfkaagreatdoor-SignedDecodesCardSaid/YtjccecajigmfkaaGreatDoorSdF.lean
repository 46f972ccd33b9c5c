/- Parts of one proof, merged: XVD XVN XK3A XK3B XJB. -/
import Derived.Test.YtjccecajigmfkaaGreatDoorSdE
import Derived.Test.YtjccecajigmfkaaGreatDoorSdC
import Derived.IntWalk
import Derived.Deep.DeepCutAuto
import Derived.Deep.CutBlock
import Derived.Deep.MidRow
set_option linter.all false
set_option maxHeartbeats 12800000
set_option maxRecDepth 10000
namespace Go.Proofs.YtjccecajigmfkaaGreatDoor
open Go.Proofs.Tryz
open Go.Lib (itoa)
variable {X:List Nat}{a:ByteArray}{b k:Nat}{l:List Int}{m n:Nat}{s:List UInt8}{w w':World}
def decV (b:List UInt8):Sum Int (V 12):=
 match yH b with
 | .inl e=>.inl e
 | .inr v=>if xV 12 v=(b,0) then .inr v else .inl 60
theorem QR {v:V n}{b:List UInt8}:xV n v=(b,0)↔zV n v=0∧(zr n (zK n v)).length≤262144∧b=zr n (zK n v):=by
 unfold xV
 split
 ·rename_i h
  exact⟨fun e=>absurd (Prod.mk.inj e).2 h,fun e=>absurd e.1 h⟩
 ·rename_i h
  have h:zV n v=0:=Decidable.of_not_not h
  split
  ·rename_i h2
   exact⟨(fun e=>absurd (Prod.mk.inj e).2 Wo),fun e=>by omega⟩
  ·rename_i h2
   exact⟨fun e=>⟨h,Ws,(Prod.mk.inj e).1.symm⟩,fun e=>by rw [e.2.2]⟩
theorem dec_enc {v:V 12}{b:List UInt8}(h:xV 12 v=(b,0)):decV b = .inr (zK 12 v)∧yH b = .inr (zK 12 v)∧xV 12 (zK 12 v)=(b,0):=by
 obtain⟨d,h2,h3⟩:=QR.1 h
 obtain⟨c1,c2,c3⟩:=ql.1 ((zcf v).trans d)
 have hp:=parse_write c3 c2 h2
 rw [← h3] at hp
 have a:xV 12 (zK 12 v)=(b,0):=QR.2 ⟨(zcf v).trans d,by rw [sort_sort];exact h2,by rw [sort_sort];exact h3⟩
 refine⟨?_,hp,a⟩
 unfold decV
 rw [hp]
 exact XK a
def ltB (a b:ByteArray):Bool:=decide (a.data.toList<b.data.toList)
section
variable {α : Type} (sub : α → α → List ByteArray)
end
theorem ltB_none {b:ByteArray}(d:¬ ltB a b=true)(h2:¬ ltB b a=true):a=b:=by
 unfold ltB at d h2
 rw [decide_eq_true_iff] at d h2
 exact Q6 (List.le_antisymm (List.not_lt.1 h2) (List.not_lt.1 d))
open Go.Lib (decodeL decodeN)
def jU (s:List UInt8)(n:Nat):Int:=
 if n=1 then gb s 0 else if n=2 then 64*((gb s 0:Int)-192)+gb s 1-128
 else if n=3 then 64*(64*((gb s 0:Int)-224)+gb s 1-128)+gb s 2-128
 else 64*(64*(64*((gb s 0:Int)-240)+gb s 1-128)+gb s 2-128)+gb s 3-128
def QU (c:Int):Bool:=decide (0≤c)&&decide (c≤1114111)&&(decide (c<55296) || decide (57343<c))
def jr:Nat→Nat→List UInt8→Int×Nat
 | 0,_,_=>(-1,0)
 | f+1,n,s=>if n≤4∧n≤s.length then (if QU (jU s n)=true∧yi (jU s n).toNat=s.take n then (jU s n,n) else jr f (n+1) s) else (-1,0)
def qG (s:List UInt8):Int×Nat:=if s=[]∨((decodeL s).1=65533∧(decodeL s).2=1) then (-1,0) else ((decodeL s).1,(decodeL s).2)
theorem Zq {c:Int}:QU c=true↔∃ m:Nat,c=m∧(m<55296∨(57344≤m∧m≤1114111)):=by
 unfold QU
 simp only [XR,uW,Xa]
 constructor
 ·intro h
  exact⟨c.toNat,Ws,Ws⟩
 ·rintro ⟨m,rfl,h⟩
  omega
theorem gb_take {i:Nat}(h:i<k):gb (s.take k) i=gb s i:=by
 unfold gb
 rw [Xq,Xq,List.getElem?_take_of_lt h]
theorem code_of {c:Nat}(D:KE s c k):jU s k=c∧k≤4:=by
 have h:=D.rune
 have hv:=D.valid
 have a:(s.take k).length=k:=by rw [Xe];have:=D.le;omega
 have g:∀ i,i<k→gb s i=gb (yi c) i:=fun i l=>by rw [h,gb_take l]
 rw [← h] at a
 rw [kq c hv] at a g
 clear h
 by_cases c1:c<128
 ·rw [XK c1] at a g
  have e:k=1:=a.symm
  subst e
  have b:=g 0 Ws
  rw [jF _ _ Ws] at b
  refine⟨?_,Wo⟩
  unfold jU
  rw [XK rfl,b]
 rw [XJ c1] at a g
 by_cases c2:c<2048
 ·rw [XK c2] at a g
  have e:k=2:=a.symm
  subst e
  have b:=g 0 Ws
  have d:=g 1 Ws
  rw [jF _ _ Ws] at b
  rw [JO _ _ _ Ws] at d
  refine⟨?_,Wo⟩
  unfold jU
  rw [XJ Wo,XK rfl,b,d]
  omega
 rw [XJ c2] at a g
 by_cases c3:c<65536
 ·rw [XK c3] at a g
  have e:k=3:=a.symm
  subst e
  have b:=g 0 Ws
  have d:=g 1 Ws
  have f:=g 2 Ws
  rw [jF _ _ Ws] at b
  rw [JO _ _ _ Ws] at d
  rw [gb_two _ _ _ _ Ws] at f
  refine⟨?_,Wo⟩
  unfold jU
  rw [XJ Wo,XJ Wo,XK rfl,b,d,f]
  omega
 ·rw [XJ c3] at a g
  have e:k=4:=a.symm
  subst e
  have b:=g 0 Ws
  have d:=g 1 Ws
  have f:=g 2 Ws
  have j:=g 3 Ws
  rw [jF _ _ Ws] at b
  rw [JO _ _ _ Ws] at d
  rw [gb_two _ _ _ _ Ws] at f
  rw [gb_three _ _ _ _ _ Ws] at j
  refine⟨?_,Wo⟩
  unfold jU
  rw [XJ Wo,XJ Wo,XJ Wo,b,d,f,j]
  omega
theorem match_of {c:Nat}(hc:c<55296∨(57344≤c∧c≤1114111))(i:n≤s.length)(h:yi c=s.take n):decodeL s=(c,n)∧¬ (c=65533∧n=1)∧s≠[]:=by
 obtain⟨b,h2,h3,j,f⟩:=kM c hc
 have a:(yi c).length=n:=by rw [h,Xe];omega
 rw [a] at b h2 f
 have d:¬ (c=65533∧n=1):=fun q=>by have:=f q.2;omega
 have D:=vo (l:=yi c) (by intro q;rw [q] at a;simp at a;omega) (by rw [b];exact d)
 rw [b] at D
 have hm:=D.more (s.drop n)
 have e:(yi c).take n=yi c:=Xl Ws
 have hm:decodeL ((yi c).take n++s.drop n)=(c,n):=hm
 rw [e,h,uG] at hm
 exact⟨hm,d,by intro q;subst q;simp at i;omega⟩
theorem nextGo_none:∀ (f n:Nat) (s:List UInt8),(s=[]∨((decodeL s).1=65533∧(decodeL s).2=1))→jr f n s=(-1,0):=by
 intro f
 induction f with
 | zero=>intro n s _;rfl
 | succ f ih=>
  intro n s h
  unfold jr
  split
  ·rename_i j
   rw [XJ,ih _ _ h]
   rintro ⟨i,a⟩
   obtain⟨m,e,hm⟩:=Zq.1 i
   rw [e,ux] at a
   obtain⟨d,b,k⟩:=match_of hm j.2 a
   rcases h with h | h
   ·exact k h
   ·rw [d] at h;exact b h
  ·rfl
theorem nextGo_some:∀ (f n:Nat) (s:List UInt8) (c k:Nat),KE s c k→¬ (c=65533∧k=1)→n≤k→k<n+f→jr f n s=((c:Int),k):=by
 intro f
 induction f with
 | zero=>intro n s c k _ _ d h2;omega
 | succ f ih=>
  intro n s c k D i d h2
  obtain⟨e,r⟩:=code_of D
  have h:=D.le
  unfold jr
  rw [XK ⟨Ws,Ws⟩]
  by_cases b:n=k
  ·subst b
   rw [XK,e]
   rw [e,ux]
   exact⟨Zq.2 ⟨c,rfl,D.valid⟩,D.rune⟩
  ·rw [XJ]
   ·exact ih (n+1) s c k D i Ws Ws
   ·rintro ⟨j,a⟩
    obtain⟨m,e,hm⟩:=Zq.1 j
    rw [e,ux] at a
    obtain⟨l,q,p⟩:=match_of hm Ws a
    have:=D.eq.symm.trans l
    exact b (Prod.mk.inj this).2.symm
theorem nextGo_eq (s:List UInt8):jr 4 1 s=qG s:=by
 unfold qG
 by_cases h:s=[]∨((decodeL s).1=65533∧(decodeL s).2=1)
 ·rw [XK h,nextGo_none _ _ _ h]
 ·rw [XJ h]
  have D:=vo (fun q=>h (.inl q)) (fun q=>h (.inr q))
  exact nextGo_some 4 1 s _ _ D (fun q=>h (.inr q)) D.pos (XC ((code_of D).2))
open Go.RowKit
theorem Y1 {a b:Bool}(h:a=b):Ending.returned (.bool a) = .returned (.bool b):=by rw [h]
theorem kV {k:IntKind}{a b:Int}(h:a=b):Ending.returned (.int k a) = .returned (.int k b):=by rw [h]
theorem gb_at (s:ByteArray)(k:Nat)(h:k<s.size):(gb s.data.toList k:Int)=(s[k].toNat:Int):=by
 unfold gb;have a:k<s.data.toList.length:=by simpa using h
 rw [Xq,XN a];rfl
theorem ZI (s:ByteArray)(i j:Nat)(a:j≤s.size):(s.extract i j).data.toList=(s.data.toList.take j).drop i:=by
 rw [ByteArray.data_extract,Array.toList_extract,List.extract_eq_take_drop,List.drop_take]
theorem qx (s:ByteArray)(i:Nat):(s.extract i s.size).data.toList=s.data.toList.drop i:=by
 rw [ZI s i s.size (XA),Xl Wz]
theorem may_any (c:Int)(w:World):Calls prog 216 #[.int .i64 c] w fun e w'=>e = .returned (.bool (QU c))∧w=w':=by
 by_cases d:0≤c
 ·by_cases b:c≤1114111
  ·by_cases h2:c<55296;·have a:Hid (true=QU c):=qI (by unfold QU;simp [d,b,h2]);go_enter func216,ntmps216;go_wp2;go_ret;exact⟨Y1 a.o,rfl⟩
   ·have a:Hid (decide (57343<c)=QU c):=qI (by unfold QU;simp [d,b,h2]);go_enter func216,ntmps216;go_wp2;go_ret;exact⟨Y1 a.o,rfl⟩
  ·have a:Hid (QU c=false):=qI (by unfold QU;simp;omega);go_enter func216,ntmps216;go_wp2;go_ret;exact⟨Y1 a.o.symm,rfl⟩
 ·have a:Hid (QU c=false):=qI (by unfold QU;simp;omega);go_enter func216,ntmps216;go_wp2;go_ret;exact⟨Y1 a.o.symm,rfl⟩
theorem zq {a b:Int}(h:a≠b):(a == b)=false∧(a != b)=true:=by simp [h]
theorem ve {a:Nat}(h:a≠b):((a:Int) == (b:Int))=false∧((a:Int) != (b:Int))=true:=zq Ws
theorem toList_inj {b:ByteArray}(h:a.toList=b.toList):a=b:=by
 rw [ByteArray.toList_eq,ByteArray.toList_eq] at h;cases a;cases b;simp only [ByteArray.mk.injEq] at *;exact Array.toList_inj.1 h
theorem k7 {b:ByteArray}(h:a≠b):(a.toList == b.toList)=false∧(a.toList != b.toList)=true:=by
 have:a.toList≠b.toList:=fun e=>h (toList_inj e);simp [this]
theorem jv {b:ByteArray}(h:a=b):(a.toList == b.toList)=true∧(a.toList != b.toList)=false:=by
 subst h;simp
theorem yq {a b:Int}(h:a=b):(a == b)=true∧(a != b)=false:=by simp [h]
theorem Qm {a:Nat}(h:a=b):((a:Int) == (b:Int))=true∧((a:Int) != (b:Int))=false:=by simp [h]
def xN (s:ByteArray)(n:Nat):Nat→Int
 | 0=>0
 | 1=>(gb s.data.toList 0:Int)-(if n=2 then 192 else if n=3 then 224 else 240)
 | k+2=>64*xN s n (k+1)+gb s.data.toList (k+1)-128
theorem codeAt_bd (s:ByteArray)(n k:Nat)(a:k≤4):-100000000≤xN s n k∧xN s n k≤100000000:=by
 have f:=YJ s.data.toList 0;have d:=YJ s.data.toList 1;have e:=YJ s.data.toList 2;have h:=YJ s.data.toList 3;have b:(0:Int)≤(if n=2 then 192 else if n=3 then 224 else 240)∧(if n=2 then 192 else if n=3 then 224 else 240:Int)≤240:=by
  split;·omega
  ·split <;> omega
 match k,a with
 | 0,_=>simp only [xN];omega
 | 1,_=>simp only [xN];omega
 | 2,_=>simp only [xN,Xd];omega
 | 3,_=>simp only [xN,Xd,Nat.reduceAdd];omega
 | 4,_=>simp only [xN,Xd,Nat.reduceAdd];omega
theorem codeAt_all (s:ByteArray)(n:Nat)(h:n=2∨n=3∨n=4):xN s n n=jU s.data.toList n:=by
 rcases h with rfl | rfl | rfl;·simp only [xN,jU,Xd,Nat.reduceAdd];simp
 ·simp only [xN,jU,Xd,Nat.reduceAdd];simp
 ·simp only [xN,jU,Xd,Nat.reduceAdd];simp
theorem codeAt_one (s:ByteArray)(n:Nat):xN s n 1=(gb s.data.toList 0:Int)-(if n=2 then 192 else if n=3 then 224 else 240):=rfl
theorem codeAt_next (s:ByteArray)(n k:Nat)(h:1≤k):xN s n (k+1)=64*xN s n k+gb s.data.toList k-128:=by
 match k,h with
 | k+1,_=>rfl
theorem code_any (s:ByteArray)(n:Nat)(u:1≤n)(v:n≤4)(J:n≤s.size)(r:s.size≤281474976710656)(w:World) : Calls prog 215 #[.string s,.int .i64 n] w fun e w'=>e = .returned (.int .i64 (jU s.data.toList n))∧w=w':=by
 have z:0<s.size:=Ws;have t:=qI (gb_at s 0 z);have D:(s[0].toNat:Int)≤255:=XC (s[0].toNat_lt);have hc:n=1∨n=2∨n=3∨n=4:=Ws;rcases hc with rfl | hc
 ·have f:Hid (jU s.data.toList 1=(s[0].toNat:Int)):=qI (by rw [← t.o];rfl);clear u v;go_enter func215,ntmps215;go_wp2;go_ret;rw [f.o];exact⟨rfl,rfl⟩
 ·have f:=qI (codeAt_all s n hc);have E:Hid (∀ k,k≤4→-100000000≤xN s n k∧xN s n k≤100000000):=qI (codeAt_bd s n);have G:=(ve (a:=n) (b:=1) Ws).1
  have y:Hid (((((n:Int) == 2)=true∧xN s n 1=(s[0].toNat:Int)-192)∨(((n:Int) == 2)=false∧((n:Int) == 3)=true∧xN s n 1=(s[0].toNat:Int)-224) ∨
    (((n:Int) == 2)=false∧((n:Int) == 3)=false∧((n:Int) == 4)=true∧xN s n 1=(s[0].toNat:Int)-240))):=qI (by
   rw [codeAt_one,t.o];rcases hc with rfl | rfl | rfl <;> simp)
  clear hc;rcases y.o with ⟨q,d⟩ | ⟨q,C,d⟩ | ⟨q,C,H,d⟩
  all_goals
   have F:=qI d;clear d;go_enter func215,ntmps215;go_wp2_with fail;go_loop [5,6] (fun x i=>∃ k:Nat,1≤k∧k≤n∧i = .int .i64 k∧x = .int .i64 (xN s n k)) (fun _ i=>n-(intOf i).toNat);case atStart=>exact⟨1,Ws,Ws,rfl,by rw [F.o]⟩
   case round=>
    obtain⟨k,h,I,rfl,rfl⟩:=hrel;have p:=E.o k Ws;by_cases A:k<n
    ·have m:(k:Int)<n:=by omega
     have j:k<s.size:=Ws;have B:(s[k].toNat:Int)≤255:=XC (s[k].toNat_lt);have l:Hid (xN s n (k+1)=64*xN s n k+(s[k].toNat:Int)-128):=qI (by rw [codeAt_next s n k h,gb_at s k j]);revert p l;generalize xN s n k=X;intro p l;go_wp2_with fail;go_round;case rel=>exact⟨k+1,Ws,Ws,by go_num,by rw [l.o]⟩
     case measure=>simp [intOf];omega
    ·obtain rfl:k=n:=by omega
     go_wp2;go_ret;exact⟨kV f.o,rfl⟩
theorem Zh (n:Nat)(h:n<256):bv (UInt8.ofNat n) = .int .u8 n:=by
 unfold bv;congr 1;have:(UInt8.ofNat n).toNat=n:=by simp [ui];omega
 rw [this]
def jo (c:Int):List Value:=
 if c<128 then [.int .u8 c] else if c<2048 then [.int .u8 (192+c/64),.int .u8 (128+c%64)]
 else if c<65536 then [.int .u8 (224+c/4096),.int .u8 (128+c/64%64),.int .u8 (128+c%64)]
 else [.int .u8 (240+c/262144),.int .u8 (128+c/4096%64),.int .u8 (128+c/64%64),.int .u8 (128+c%64)]
theorem refBytes_int (c:Int)(f:0≤c)(d:c≤1114111)(w:World) : Calls prog 217 #[.int .i64 c] w fun e w'=>e = .returned (.slice (some ⟨w.heap.size,0,none⟩) (jo c).length (jo c).length)∧w'=w.alloc (.cells (jo c).toArray 5):=by
 by_cases b:c<128;·have a:Hid (jo c=[.int .u8 c]):=qI (by unfold jo;rw [XK b]);go_enter func217,ntmps217;go_wp2;go_ret;rw [a.o];exact⟨rfl,rfl⟩
 by_cases h2:c<2048;·have a:Hid (jo c=[.int .u8 (192+c/64),.int .u8 (128+c%64)]):=qI (by unfold jo;rw [XJ b,XK h2]);go_enter func217,ntmps217;go_wp2;go_ret;rw [a.o];exact⟨rfl,rfl⟩
 by_cases h3:c<65536;·have a:Hid (jo c=[.int .u8 (224+c/4096),.int .u8 (128+c/64%64),.int .u8 (128+c%64)]):=qI (by unfold jo;rw [XJ b,XJ h2,XK h3]);go_enter func217,ntmps217;go_wp2;go_ret;rw [a.o];exact⟨rfl,rfl⟩
 ·have a:Hid (jo c=[.int .u8 (240+c/262144),.int .u8 (128+c/4096%64),.int .u8 (128+c/64%64),.int .u8 (128+c%64)]):=qI (by unfold jo;rw [XJ b,XJ h2,XJ h3]);go_enter func217,ntmps217;go_wp2;go_ret;rw [a.o];exact⟨rfl,rfl⟩
theorem zax (m:Nat)(hm:m<55296∨(57344≤m∧m≤1114111)):jo m=(yi m).map bv:=by
 rw [kq m hm];unfold jo;by_cases a:m<128;·rw [XK a,XK Ws];simp only [Xf,X3];rw [Zh _ Ws]
 rw [XJ a,XJ Ws];by_cases h2:m<2048;·rw [XK h2,XK Ws];simp only [Xf,X3];rw [Zh _ Ws,Zh _ Ws];rfl
 rw [XJ h2,XJ Ws];by_cases h3:m<65536;·rw [XK h3,XK Ws];simp only [Xf,X3];rw [Zh _ Ws,Zh _ Ws,Zh _ Ws];rfl
 ·rw [XJ h3,XJ Ws];simp only [Xf,X3];rw [Zh _ Ws,Zh _ Ws,Zh _ Ws,Zh _ Ws];rfl
theorem YD (m:Nat)(hm:m<55296∨(57344≤m∧m≤1114111))(w:World) : Calls prog 217 #[.int .i64 m] w fun e w'=>(∃ a c,e = .returned (.slice a (yi m).length c)∧zm w' (.slice a (yi m).length c) (yi m))∧zb [] w w':=
 (refBytes_int m Ws Ws w).mono fun e w' ⟨h1,h2⟩=>by
  have b:=zax m hm;have d:(jo m).length=(yi m).length:=by rw [b,Xb]
  rw [d] at h1;rw [b] at h2;subst h2;refine⟨⟨_,_,h1,?_⟩,Wd.alloc _⟩;have f:(yi m).length≤4:=(kM m hm).2.2.1;exact yE w ((yi m).map bv) 1 (yi m).length 5 w.heap.size rfl Wz (by simp only [maxLen];omega)
theorem tyByteJ:qq prog 32 5 1 1 (.int .u8 0):=⟨underlying32,Wr,rfl,Wo⟩
theorem YF (h:zb X w w')(a:∀ k,k∈X→w.heap.size≤k):zb [] w w':=
 ⟨h.os,h.tape,h.output,h.size,fun k b _=>h.block k b (fun d=>by have:=a k d;omega)⟩
def wv (x:Int):Value:=.int .u32 x
def yo (l:List Int)(m:Nat):List Value:=l.map wv++List.replicate m (wv 0)
def accW (b:List UInt8):Int:=b.foldl (fun w c=>bits .or .u32 (w*256%4294967296) (c.toNat:Int)) 0
def s0W (x:Int):Int:=bits .xor .u32 (bits .xor .u32 (KM 33554432 128 x) (KM 16384 262144 x)) (x/8)
def s1W (x:Int):Int:=bits .xor .u32 (bits .xor .u32 (KM 32768 131072 x) (KM 8192 524288 x)) (x/1024)
def nextW (l:List Int):Int:=(l.getD (l.length-16) 0+s0W (l.getD (l.length-15) 0)+l.getD (l.length-7) 0+s1W (l.getD (l.length-2) 0))%4294967296
def qt (b:List UInt8):Nat→List Int
 | 0=>[]
 | t+1=>qt b t++[if t<16 then accW ((b.drop (4*t)).take 4) else nextW (qt b t)]
theorem xF (b:List UInt8):∀ t,(qt b t).length=t
 | 0=>rfl
 | t+1=>by show (qt b t++[_]).length=_;rw [XM,xF b t];rfl
theorem words_len (l:List Int)(m:Nat):(yo l m).length=l.length+m:=by simp [yo]
theorem zbW (l:List Int)(m:Nat):yo (l++[0]) m=yo l (m+1):=by
 unfold yo;rw [Xc,Xv];rfl
theorem zal (l:List Int)(m j:Nat)(h:j<l.length):(yo l m)[j]? = some (wv (l.getD j 0)):=by
 unfold yo;rw [Xz (by simpa using h),Xs,XN h];simp [h]
theorem words_set (l:List Int)(m:Nat)(x y:Int):(yo (l++[x]) m).set l.length (wv y)=yo (l++[y]) m:=by
 unfold yo;rw [Xc,Xc,Xv,Xv];rw [VI _ _ Wz];simp [wv]
theorem K6 (l:List Int)(m:Nat)(x y:Int):(yo (l++[x]) m).toArray.setIfInBounds l.length (wv y)=(yo (l++[y]) m).toArray:=by
 rw [VK,words_set]
theorem words_nil (j m:Nat)(h:j<m):(yo [] m)[j]? = some (wv 0):=by
 unfold yo;simp only [X3,X8];rw [List.getElem?_replicate,XK h]
theorem words_one (l:List Int)(m:Nat):∀ v,v∈yo l m→v.oneCell'=true:=by
 intro v hv;unfold yo at hv;rcases uO.1 hv with h | h;·obtain⟨x,-,rfl⟩:=Xm.1 h;rfl
 ·obtain⟨-,rfl⟩:=List.mem_replicate.1 h;rfl
def xL (w:World)(b:Nat)(l:List Int)(m:Nat):Prop:=w.heap[b]? = some (.cells (yo l m).toArray 263 (0,0))
theorem xL.cell {w:World}{b:Nat}{l:List Int}{m j:Nat}(h:xL w b l m)(a:j<l.length):w.cell? ⟨b,j,none⟩=some (.int .u32 (l.getD j 0)):=
 za h (by have:=zal l m j a;simpa [wv] using this)
theorem xL.free {j:Nat}(h:xL w b l m):w.frozen? ⟨b,j,none⟩=false:=zh h
theorem xL.kept (h:xL w b l m)(k:zb X w w')(a:b ∉ X):xL w' b l m:=k.heap h a
theorem xL.store {x:Int}(h:xL w b (l++[x]) m)(y:Int):xL (w.setCell ⟨b,l.length,none⟩ (.int .u32 y)) b (l++[y]) m:=
 ze h (K6 l m x y)
theorem sched_any (w:World)(a:Option Addr)(c:Nat)(l:List UInt8)(hl:l.length=64)(hb:zm w (.slice a 64 c) l) : zG w 234 #[.slice a 64 c] (.agg (yo (qt l 64) 0).toArray):=by
 obtain⟨W0,Gc⟩:=XE ((w.alloc (.cells (yo [] 64).toArray 263)).alloc (.cells (yo [] 64).toArray 263));have Gn:Hid (zb [] w W0):=qI (kA2 Gc.o);have Gr:Hid (xL W0 w.heap.size [] 64):=qI (by rw [Gc.o];exact ((zb.refl [] _).alloc _).heap (zd rfl) Wz);have Gs:Hid (xL W0 (w.heap.size+1) [] 64):=qI (by rw [Gc.o];exact zd Wz);have HB:=qI hb;have Gp:=qI hl;clear hb hl;go_enter func234,ntmps234;go_upto_region 2 with fail;refine yZ Gc.o ?_;go_wp2_with fail;go_loopw [4,6,7,8,9,10,11] (fun _ _ _ _ _ _ i wr=>∃ t:Nat,i = .int .i64 t∧t≤64∧zb [w.heap.size+1] W0 wr∧xL wr (w.heap.size+1) (qt l t) (64-t)) (fun _ _ _ _ _ _ i _=>64-(intOf i).toNat);case atStart=>exact⟨0,rfl,Wo,Wd,Gs.o⟩
 case round=>
  obtain⟨t,rfl,ht,H,p⟩:=hrel;have Gd:=qI H;have Gt:=qI p;by_cases F:t<64;rotate_left
  ·obtain rfl:t=64:=by omega
   clear F ht H;obtain⟨y,I⟩:=XF (yo (qt l 64) 0);have u:y.length=64:=by rw [I,words_len,xF]
   have aj:wr.rangeAt (w.heap.size+1) 0 y:=fun j v hv=>by rw [Xd];exact za (p:_=some (Obj.cells (yo (qt l 64) 0).toArray _ _)) (by rw [← I];simpa using hv)
   have J:xL wr w.heap.size [] 64:=Gr.o.kept Gd.o Wz;have aa:wr.there w.heap.size 0 y.toArray.size:=fun j hj=>by
    rw [Xd];have aq:j<64:=by simpa [u] using hj
    have m:=words_nil j 64 aq;exact⟨by rw [za (J:_=some (Obj.cells (yo [] 64).toArray _ _)) (by simpa using m)];rfl,zh J⟩
   have U:y.toArray.all (·.oneCell')=true:=Array.all_eq_true_iff_forall_mem.2 (fun v hv=>by rw [I] at hv;exact words_one _ _ v (by simpa using hv));have Gu:=qI I;have Jg:=qI J;have Gv:=qI u;have hi:((prog).info? 263).map (·.size)=some y.length:=by rw [u];kernel_rfl
   have am:((prog).info? 263).map (·.size)=some y.toArray.size:=by rw [X2,u];kernel_rfl
   go_upto_region 16 with fail;refine wp_region_list ?_;change wpList _ _ _ [_,_] _ _;refine wpList_load_mid Wk 263 (.tmp 3) Wk (w.heap.size+1) 0 Wk y _ aj underlying263 rfl hi ?_;refine wpList_store_mid Wk 263 (.tmp 2) (.tmp 78) Wk w.heap.size 0 y.toArray Wk Wk aa am U ?_;have E:(wr.setCells w.heap.size 0 y.toArray.toList).rangeAt w.heap.size 0 y:=World.rangeAt_setCells_same _ _ _ _ (by simpa using aa);have N:=yO w.heap.size y.toArray.toList 0 wr;revert E N;generalize wr.setCells w.heap.size 0 y.toArray.toList=WF;intro E N;have ak:=run_loadVar_mid (P:=prog) WF w.heap.size 0 263 y _ E underlying263 rfl hi;have ar:zb [] w WF:=YF (((Gn.o.mono (Y:=[w.heap.size,w.heap.size+1]) Wz).trans' (Gd.o.mono Wz)).trans' (N.mono Wz)) Wz;clear I u aj J aa U p hi am E N;try simp only [XI]
   go_wp2;exact bodyPost_ret (v:=.agg y.toArray) (by simp [results,results234,ak,Sem.run_bind,asAddr]) rfl ⟨by rw [Gu.o],ar⟩
  have af:(t:Int)<64:=Ws;have Gw:Hid (zb [] w wr):=qI (YF ((Gn.o.mono (Y:=[w.heap.size+1]) Wz).trans' H) Wz);by_cases Z:t<16
  ·have ai:(t:Int)<16:=by omega
   obtain⟨a2,c2,hs,M,ag⟩:=(show zm wr (.slice a 64 c) l from HB.o.k0 Gw.o).mid tyByteJ (4*t) (4*t+4) Ws (by rw [Gp.o];omega);have a6:∀ W,(Instr.slice 32 (.slice a 64 c) (some (.int .i64 (4*(t:Int)))) (some (.int .i64 (4*(t:Int)+4))) none).run prog W = .ok (.slice a2 4 c2) W:=fun W=>by have m:=hs W;rw [show 4*t+4-4*t=4 by omega] at m;push_cast at m;exact m
   rw [show 4*t+4-4*t=4 by omega] at M;obtain⟨blk,z⟩:=XF ((l.drop (4*t)).take 4);rw [← z] at M;have ae:blk.length=4:=by rw [z,Xe,XW,Gp.o];omega
   obtain⟨g2,o2,rfl,Q⟩:∃ g2 o2,a2=some ⟨g2,o2,none⟩∧Row wr g2 o2 (blk.map bv):=by
    rcases M.2 with ⟨-,h0⟩ | ⟨h0,-⟩ | ⟨g,o,cap,e,-,-,hr⟩;·omega
    ·omega
    ·simp only [XU] at e;exact⟨g,o,e.1,hr⟩
   have Gj:=qI Q;have Gb:=qI ae;have Gk:=qI z;have Gl:=qI Z;have Ga:=qI F;have Gx:Hid (g2≠w.heap.size+1):=qI (by
    have m:=Slc.lt HB.o (ag g2 (by rw [show 4*t+4-4*t=4 by omega];rfl));omega)
   clear hs M ag z ae Q H p Z F;go_wp2_with fail;obtain⟨WR,rfl⟩:=XF wr;go_loopw [6,24] (fun _ j wq=>∃ k:Nat,j = .int .i64 k∧k≤4∧zb [w.heap.size+1] WR wq∧xL wq (w.heap.size+1) (qt l t++[accW (blk.take k)]) (63-t)) (fun _ j _=>4-(intOf j).toNat);case atStart=>exact⟨0,rfl,Wo,Wd,by
    have m:=Gt.o;unfold xL at m ⊢;rw [show 64-t=(63-t)+1 by have:=Ga.o;omega,← zbW] at m;exact m⟩
   case round=>
    obtain⟨k,rfl,hk,x,G⟩:=hrel;have Ge:=qI x;have Gq:=qI G;by_cases r:k<4;rotate_left
    ·obtain rfl:k=4:=by omega
     clear hk x G r;go_wp2;case roundEnd=>exact⟨⟨t+1,by go_num,by have:=Ga.o;omega,Gd.o.trans' Ge.o,by
      have m:=Gq.o;rw [Xl (by rw [Gb.o];exact XA),Gk.o] at m;show xL _ _ (qt l t++[if t<16 then _ else _]) _;rw [XK Gl.o,show 64-(t+1)=63-t by omega];exact m⟩,by have:=Ga.o;simp [intOf];omega⟩
    have ax:(k:Int)<4:=Ws;have hq:=Gj.o.cells k (bv (blk[k]'(by rw [Gb.o];exact r))) (by rw [Xs,XN (by rw [Gb.o];exact r)];rfl);obtain⟨L,ab⟩:=XF (blk[k]'(by rw [Gb.o];exact r));rw [← ab] at hq;have q0:wr.cell? ⟨g2,o2+k,none⟩=some (.int .u8 (L.toNat:Int)):=x.cell hq (by simpa using Gx.o);obtain⟨A,X⟩:=XF (accW (blk.take k));have ap:w.heap.size+1=w.heap.size+1:=rfl;have q1:wr.cell? ⟨w.heap.size+1,t,none⟩=some (.int .u32 A):=by have m:=G.cell (j:=t) (by rw [XM,xF];simp);rw [m,X];simp [Xq,xF]
    have z1:wr.frozen? ⟨w.heap.size+1,t,none⟩=false:=G.free;have a7:(0:Int)≤L.toNat:=Ws;have a3:(L.toNat:Int)<256:=XC L.toNat_lt;have a4:(L.toNat:Int)%4294967296=L.toNat:=XC L.toNat_lt;have Gm:Hid (accW (blk.take (k+1))=bits .or .u32 (A*256%4294967296) (L.toNat:Int)):=qI (by
     rw [XZ (by rw [Gb.o];exact r),X,ab];unfold accW;rw [List.foldl_append];rfl)
    have Gf:=qI r;clear hk x G r hq ap X ab;go_wp2;case roundEnd=>exact⟨⟨k+1,by go_num,by have:=Gf.o;omega,Ge.o.trans' ((zb.refl [w.heap.size+1] wr).setCell (.inl Wz) _),by
     have m:=Gq.o.store (bits .or .u32 (A*256%4294967296) (L.toNat:Int));rw [xF] at m;rw [Gm.o];exact m⟩,by have:=Gf.o;simp [intOf];omega⟩
  obtain⟨q,rfl⟩:∃ q,t=q+16:=⟨t - 16,Ws⟩;have Ga:=qI F;obtain⟨A,X⟩:=XF ((qt l (q+16)).getD (q+1) 0);obtain⟨B,hB⟩:=XF ((qt l (q+16)).getD (q+14) 0);obtain⟨C,hC⟩:=XF ((qt l (q+16)).getD q 0);obtain⟨D,hD⟩:=XF ((qt l (q+16)).getD (q+9) 0);have Gy:Hid (qt l (q+16+1)=qt l (q+16)++[(C+s0W A+D+s1W B)%4294967296]):=qI (by
   show qt l (q+16)++[if q+16<16 then _ else _]=_;rw [XJ Ws];unfold nextW;rw [xF,X,hB,hC,hD,show q+16-16=q by omega,show q+16-15=q+1 by omega,show q+16-7=q+9 by omega,show q+16-2=q+14 by omega])
  have cA:wr.cell? ⟨w.heap.size+1,q+1,none⟩=some (.int .u32 A):=by rw [X];exact p.cell (by rw [xF];omega)
  have cB:wr.cell? ⟨w.heap.size+1,q+14,none⟩=some (.int .u32 B):=by rw [hB];exact p.cell (by rw [xF];omega)
  have Gz:Hid (wr.cell? ⟨w.heap.size+1,q,none⟩=some (.int .u32 C)):=qI (by rw [hC];exact p.cell (by rw [xF];omega));have Ja:Hid (wr.cell? ⟨w.heap.size+1,q+9,none⟩=some (.int .u32 D)):=qI (by rw [hD];exact p.cell (by rw [xF];omega));have Jb:Hid (xL wr (w.heap.size+1) (qt l (q+16)++[0]) (63-(q+16))):=qI (by
   have m:=p;unfold xL at m ⊢;rw [show 64-(q+16)=(63-(q+16))+1 by omega,← zbW] at m;exact m)
  have a9:(q:Int)+16<64:=Ws;have a5:(0:Int)≤q:=Ws;have av:(q:Int)<64:=Ws;have a8:IntKind.i64.wrap (q:Int)=q:=by rw [IntKind.wrap_i64];omega
  have az:IntKind.i64.wrap ((q:Int)+16-7)=q+9:=by rw [IntKind.wrap_i64];omega
  have a1:(0:Int)≤q+9:=Ws;have ay:(q:Int)+9<64:=Ws;have a0:((q:Int)+9).toNat=q+9:=Ws;have aw:(0:Int)≤q+16:=Ws;have au:((q:Int)+16).toNat=q+16:=Ws;have ai:¬ (q:Int)+16<16:=Ws;clear X hB hC hD p H ht F Z af;go_wp2_with fail;have EA:=zt cA;have EB:=zt cB;clear cA cB;refine zI wr Wr Wr Wd ?_;repeat go_big_quiet_step (fail)
  refine wpQuiet_nil ?_;intro w2 x;have Ge:=qI x;clear EA EB x;go_wp2_with fail;refine (jy _ A 7 33554432 128 (by unfold bx;decide)).mono ?_;rintro e w3 ⟨rfl,ah⟩;have Jc:=qI (Ge.o.then ah);clear ah;go_wp2_with fail;refine (jy _ A 18 16384 262144 (by unfold bx;decide)).mono ?_;rintro e w4 ⟨rfl,r⟩;have Gf:=qI (Jc.o.then r);clear r;go_wp2_with fail;refine (jy _ B 17 32768 131072 (by unfold bx;decide)).mono ?_;rintro e w5 ⟨rfl,al⟩;have Jd:=qI (Gf.o.then al);clear al;go_wp2_with fail;refine (jy _ B 19 8192 524288 (by unfold bx;decide)).mono ?_;rintro e w6 ⟨rfl,an⟩;have Gg:=qI (Jd.o.then an);clear an;go_upto_region 14 with fail;have ao:=Gg.o.cell Gz.o Wz;have c7:=Gg.o.cell Ja.o Wz;have Je:=qI (Jb.o.kept Gg.o Wz);refine zu (n:=16) (fun w':World=>zb [] w6 w') 15 Wr Wr ?_;change zT _ _ _ _ _ _ _ _ _ w6.drew;have b:(fun w':World=>zb [] w6 w') w6.drew:=(zb.refl _ w6).drew;have Gh:Hid (zb [] w6 w6.drew):=qI (zb.refl _ w6).drew;revert b Gh;generalize w6.drew=WD;intro b Gh;refine zF ?_;intro O R s hR;have f:jA R:=by subst hR;exact fun _ _ _ _ _ h=>h
  refine qT 0 ?_ s rfl rfl Wr f (fun w d=>?_) b ?_;rotate_left;·exact zg
  try simp only [XI]
  refine qT 1 ?_ s rfl rfl Wr f (fun w d=>?_) b ?_;rotate_left;·exact zg
  try simp only [XI]
  refine qT 2 ?_ s rfl rfl Wr f (fun w d=>?_) b ?_;rotate_left;·exact zg
  try simp only [XI]
  refine qT 3 ?_ s rfl rfl Wr f (fun w d=>?_) b ?_;rotate_left;·exact zg
  try simp only [XI]
  refine qT 4 ?_ s rfl rfl Wr f (fun w d=>?_) b ?_;rotate_left;·have s0:=d.cell ao Wz;exact zg
  try simp only [XI]
  refine qT 5 ?_ s rfl rfl Wr f (fun w d=>?_) b ?_;rotate_left;·exact zg
  try simp only [XI]
  refine qT 6 ?_ s rfl rfl Wr f (fun w d=>?_) b ?_;rotate_left;·exact zg
  try simp only [XI]
  refine qT 7 ?_ s rfl rfl Wr f (fun w d=>?_) b ?_;rotate_left;·exact zg
  try simp only [XI]
  refine qT 8 ?_ s rfl rfl Wr f (fun w d=>?_) b ?_;rotate_left;·exact zg
  try simp only [XI]
  refine qT 9 ?_ s rfl rfl Wr f (fun w d=>?_) b ?_;rotate_left;·exact zg
  try simp only [XI]
  refine qT 10 ?_ s rfl rfl Wr f (fun w d=>?_) b ?_;rotate_left;·have s0:=d.cell c7 Wz;exact zg
  try simp only [XI]
  refine qT 11 ?_ s rfl rfl Wr f (fun w d=>?_) b ?_;rotate_left;·exact zg
  try simp only [XI]
  refine qT 12 ?_ s rfl rfl Wr f (fun w d=>?_) b ?_;rotate_left;·exact zg
  try simp only [XI]
  refine qT 13 ?_ s rfl rfl Wr f (fun w d=>?_) b ?_;rotate_left;·exact zg
  try simp only [XI]
  refine qT 14 ?_ s rfl rfl Wr f (fun w d=>?_) b ?_;rotate_left;·exact zg
  try simp only [XI]
  have zc:=Je.o.kept Gh.o Wz;have zs:WD.cell? ⟨w.heap.size+1,q+16,none⟩=some (.int .u32 0):=by have m:=zc.cell (j:=q+16) (by rw [XM,xF];simp);rw [m];simp [Xq,xF]
  have zf:WD.frozen? ⟨w.heap.size+1,q+16,none⟩=false:=zc.free;have Jf:=qI zc;refine qO 15 s rfl Wr (fun K hK=>?_);go_simp;refine hK _ _ (.inl rfl) ?_;clear hK K;try simp only [XI]
  refine zE s Wr ?_ _;subst hR;try clear f s O
  clear zs zf zc b ao c7;have ad:=Jf.o.store ((C+s0W A+D+s1W B)%4294967296);rw [xF] at ad;have Gi:=qI ad;clear ad;simp only [IntKind.wrap_u32'];go_wp2;case roundEnd=>exact⟨⟨q+16+1,by go_num,by have:=Ga.o;omega,(Gd.o.trans' ((Gg.o.then Gh.o).mono (Y:=[w.heap.size+1]) Wz)).trans' ((zb.refl [w.heap.size+1] WD).setCell (.inl Wz) _),by
   rw [Gy.o,show 64-(q+16+1)=63-(q+16) by omega];exact Gi.o⟩,by have:=Ga.o;simp [intOf];omega⟩
end Go.Proofs.YtjccecajigmfkaaGreatDoor

/- Parts of one proof, merged: XVD XVN XK3A XK3B XJB. -/
import Derived.Test.YtibnfbglanpoiaaGreatDoorQeF
import Derived.Test.YtibnfbglanpoiaaGreatDoorQeC
import Derived.IntWalk
import Derived.Deep.DeepCutAuto
import Derived.Deep.CutBlock
import Derived.Deep.MidRow
set_option linter.all false
set_option maxHeartbeats 12800000
set_option maxRecDepth 10000
namespace Go.Proofs.YtibnfbglanpoiaaGreatDoor
open Go.Proofs.Tryz
open Go.Lib (itoa)
def ltB (a b:ByteArray):Bool:=decide (a.data.toList<b.data.toList)
section
variable {α : Type} (sub : α → α → List ByteArray)
end
theorem ltB_none {a b:ByteArray}(h1:¬ ltB a b=true) (h2:¬ ltB b a=true):a=b:=by
 unfold ltB at h1 h2
 rw [decide_eq_true_iff] at h1 h2
 exact ba_eq (List.le_antisymm (List.not_lt.1 h2) (List.not_lt.1 h1))
theorem ltB_asymm {a b:ByteArray}(h1:ltB a b=true):¬ ltB b a=true:=by
 unfold ltB at h1 ⊢
 rw [decide_eq_true_iff] at h1 ⊢
 exact List.lt_asymm h1
open Go.Lib (decodeL decodeN)
def kY (s:List UInt8) (n:Nat):Int:=
 if n=1 then gb s 0 else if n=2 then 64*((gb s 0:Int)-192)+gb s 1-128
 else if n=3 then 64*(64*((gb s 0:Int)-224)+gb s 1-128)+gb s 2-128
 else 64*(64*(64*((gb s 0:Int)-240)+gb s 1-128)+gb s 2-128)+gb s 3-128
def Y0 (c:Int):Bool:=decide (0≤c)&&decide (c≤1114111)&&(decide (c<55296) || decide (57343<c))
def kx:Nat→Nat→List UInt8→Int×Nat
 | 0,_,_=>(-1,0)
 | f+1,n,s=>if n≤4∧n≤s.length then (if Y0 (kY s n)=true∧xX (kY s n).toNat=s.take n then (kY s n,n) else kx f (n+1) s) else (-1,0)
def bH (s:List UInt8):Int×Nat:=if s=[]∨((decodeL s).1=65533∧(decodeL s).2=1) then (-1,0) else ((decodeL s).1,(decodeL s).2)
theorem Qd {c:Int}:Y0 c=true↔∃ m:Nat,c=m∧(m<55296∨(57344≤m∧m≤1114111)):=by
 unfold Y0
 simp only [Bool.and_eq_true,Bool.or_eq_true,decide_eq_true_eq]
 constructor
 ·intro h
  exact⟨c.toNat,Ws,Ws⟩
 ·rintro ⟨m,rfl,h⟩
  omega
theorem gb_take {s:List UInt8}{k i:Nat}(h:i<k):gb (s.take k) i=gb s i:=by
 unfold gb
 rw [List.getD_eq_getElem?_getD,List.getD_eq_getElem?_getD,List.getElem?_take_of_lt h]
theorem code_of {s:List UInt8}{c k:Nat}(D:Decoded s c k):kY s k=c∧k≤4:=by
 have hr:=D.rune
 have hv:=D.valid
 have hl:(s.take k).length=k:=by rw [List.length_take];have:=D.le;omega
 have g:∀ i,i<k→gb s i=gb (xX c) i:=fun i hi=>by rw [hr,gb_take hi]
 rw [← hr] at hl
 rw [jc c hv] at hl g
 clear hr
 by_cases c1:c<128
 ·rw [if_pos c1] at hl g
  have hk:k=1:=hl.symm
  subst hk
  have g0:=g 0 Ws
  rw [kV _ _ Ws] at g0
  refine⟨?_,Wo⟩
  unfold kY
  rw [if_pos rfl,g0]
 rw [if_neg c1] at hl g
 by_cases c2:c<2048
 ·rw [if_pos c2] at hl g
  have hk:k=2:=hl.symm
  subst hk
  have g0:=g 0 Ws
  have g1:=g 1 Ws
  rw [kV _ _ Ws] at g0
  rw [QD _ _ _ Ws] at g1
  refine⟨?_,Wo⟩
  unfold kY
  rw [if_neg Wo,if_pos rfl,g0,g1]
  omega
 rw [if_neg c2] at hl g
 by_cases c3:c<65536
 ·rw [if_pos c3] at hl g
  have hk:k=3:=hl.symm
  subst hk
  have g0:=g 0 Ws
  have g1:=g 1 Ws
  have g2:=g 2 Ws
  rw [kV _ _ Ws] at g0
  rw [QD _ _ _ Ws] at g1
  rw [gb_two _ _ _ _ Ws] at g2
  refine⟨?_,Wo⟩
  unfold kY
  rw [if_neg Wo,if_neg Wo,if_pos rfl,g0,g1,g2]
  omega
 ·rw [if_neg c3] at hl g
  have hk:k=4:=hl.symm
  subst hk
  have g0:=g 0 Ws
  have g1:=g 1 Ws
  have g2:=g 2 Ws
  have g3:=g 3 Ws
  rw [kV _ _ Ws] at g0
  rw [QD _ _ _ Ws] at g1
  rw [gb_two _ _ _ _ Ws] at g2
  rw [gb_three _ _ _ _ _ Ws] at g3
  refine⟨?_,Wo⟩
  unfold kY
  rw [if_neg Wo,if_neg Wo,if_neg Wo,g0,g1,g2,g3]
  omega
theorem match_of {s:List UInt8}{c n:Nat}(hc:c<55296∨(57344≤c∧c≤1114111)) (hn:n≤s.length) (h:xX c=s.take n):decodeL s=(c,n)∧¬ (c=65533∧n=1)∧s≠[]:=by
 obtain⟨h1,h2,h3,h4,h5⟩:=QY c hc
 have hl:(xX c).length=n:=by rw [h,List.length_take];omega
 rw [hl] at h1 h2 h5
 have hb:¬ (c=65533∧n=1):=fun q=>by have:=h5 q.2;omega
 have D:=decoded (l:=xX c) (by intro q;rw [q] at hl;simp at hl;omega) (by rw [h1];exact hb)
 rw [h1] at D
 have hm:=D.more (s.drop n)
 have e:(xX c).take n=xX c:=List.take_of_length_le Ws
 have hm:decodeL ((xX c).take n++s.drop n)=(c,n):=hm
 rw [e,h,List.take_append_drop] at hm
 exact⟨hm,hb,by intro q;subst q;simp at hn;omega⟩
theorem nextGo_none:∀ (f n:Nat) (s:List UInt8),(s=[]∨((decodeL s).1=65533∧(decodeL s).2=1))→kx f n s=(-1,0):=by
 intro f
 induction f with
 | zero=>intro n s _;rfl
 | succ f ih=>
  intro n s h
  unfold kx
  split
  ·rename_i hn
   rw [if_neg,ih _ _ h]
   rintro ⟨q1,q2⟩
   obtain⟨m,e,hm⟩:=Qd.1 q1
   rw [e,Int.toNat_natCast] at q2
   obtain⟨g1,g2,g3⟩:=match_of hm hn.2 q2
   rcases h with h | h
   ·exact g3 h
   ·rw [g1] at h;exact g2 h
  ·rfl
theorem nextGo_some:∀ (f n:Nat) (s:List UInt8) (c k:Nat),Decoded s c k→¬ (c=65533∧k=1)→n≤k→k<n+f→kx f n s=((c:Int),k):=by
 intro f
 induction f with
 | zero=>intro n s c k _ _ h1 h2;omega
 | succ f ih=>
  intro n s c k D hb h1 h2
  obtain⟨e,h4⟩:=code_of D
  have hle:=D.le
  unfold kx
  rw [if_pos ⟨Ws,Ws⟩]
  by_cases hk:n=k
  ·subst hk
   rw [if_pos,e]
   rw [e,Int.toNat_natCast]
   exact⟨Qd.2 ⟨c,rfl,D.valid⟩,D.rune⟩
  ·rw [if_neg]
   ·exact ih (n+1) s c k D hb Ws Ws
   ·rintro ⟨q1,q2⟩
    obtain⟨m,e,hm⟩:=Qd.1 q1
    rw [e,Int.toNat_natCast] at q2
    obtain⟨g1,g2,g3⟩:=match_of hm Ws q2
    have:=D.eq.symm.trans g1
    exact hk (Prod.mk.inj this).2.symm
theorem nextGo_eq (s:List UInt8):kx 4 1 s=bH s:=by
 unfold bH
 by_cases h:s=[]∨((decodeL s).1=65533∧(decodeL s).2=1)
 ·rw [if_pos h,nextGo_none _ _ _ h]
 ·rw [if_neg h]
  have D:=decoded (fun q=>h (.inl q)) (fun q=>h (.inr q))
  exact nextGo_some 4 1 s _ _ D (fun q=>h (.inr q)) D.pos (by have:=(code_of D).2;omega)
open Go.RowKit
theorem bt {a b:Bool}(h:a=b):Ending.returned (.bool a) = .returned (.bool b):=by rw [h]
theorem ZZ {k:IntKind}{a b:Int}(h:a=b):Ending.returned (.int k a) = .returned (.int k b):=by rw [h]
theorem gb_at (s:ByteArray) (k:Nat) (h:k<s.size):(gb s.data.toList k:Int)=(s[k].toNat:Int):=by
 unfold gb
 have h':k<s.data.toList.length:=by simpa using h
 rw [List.getD_eq_getElem?_getD,List.getElem?_eq_getElem h']
 rfl
theorem ext_list (s:ByteArray) (i j:Nat) (hj:j≤s.size):(s.extract i j).data.toList=(s.data.toList.take j).drop i:=by
 rw [ByteArray.data_extract,Array.toList_extract,List.extract_eq_take_drop,List.drop_take]
theorem ext_from (s:ByteArray) (i:Nat):(s.extract i s.size).data.toList=s.data.toList.drop i:=by
 rw [ext_list s i s.size (Nat.le_refl _),List.take_of_length_le Wz]
theorem may_any (c:Int) (w:World):Calls Tryz.prog 176 #[.int .i64 c] w fun e w'=>e = .returned (.bool (Y0 c))∧w=w':=by
 by_cases h0:0≤c
 ·by_cases h1:c≤1114111
  ·by_cases h2:c<55296
   ·have HM:Hid (true=Y0 c):=qI (by unfold Y0;simp [h0,h1,h2])
    go_enter func176,ntmps176
    go_wp2_with fail
    go_ret
    exact⟨bt HM.o,rfl⟩
   ·have HM:Hid (decide (57343<c)=Y0 c):=qI (by unfold Y0;simp [h0,h1,h2])
    go_enter func176,ntmps176
    go_wp2_with fail
    go_ret
    exact⟨bt HM.o,rfl⟩
  ·have HM:Hid (Y0 c=false):=qI (by unfold Y0;simp;omega)
   go_enter func176,ntmps176
   go_wp2_with fail
   go_ret
   exact⟨bt HM.o.symm,rfl⟩
 ·have HM:Hid (Y0 c=false):=qI (by unfold Y0;simp;omega)
  go_enter func176,ntmps176
  go_wp2_with fail
  go_ret
  exact⟨bt HM.o.symm,rfl⟩
theorem yF {a b:Int}(h:a≠b):(a == b)=false∧(a != b)=true:=by simp [h]
theorem QI {a b:Nat}(h:a≠b):((a:Int) == (b:Int))=false∧((a:Int) != (b:Int))=true:=yF Ws
theorem toList_inj {a b:ByteArray}(h:a.toList=b.toList):a=b:=by
 rw [ByteArray.toList_eq,ByteArray.toList_eq] at h
 cases a;cases b
 simp only [ByteArray.mk.injEq] at *
 exact Array.toList_inj.1 h
theorem ke {a b:ByteArray}(h:a≠b):(a.toList == b.toList)=false∧(a.toList != b.toList)=true:=by
 have:a.toList≠b.toList:=fun e=>h (toList_inj e)
 simp [this]
theorem ky {a b:ByteArray}(h:a=b):(a.toList == b.toList)=true∧(a.toList != b.toList)=false:=by
 subst h;simp
theorem xH {a b:Int}(h:a=b):(a == b)=true∧(a != b)=false:=by simp [h]
theorem nat_eq {a b:Nat}(h:a=b):((a:Int) == (b:Int))=true∧((a:Int) != (b:Int))=false:=by simp [h]
def xI (s:ByteArray) (n:Nat):Nat→Int
 | 0=>0
 | 1=>(gb s.data.toList 0:Int)-(if n=2 then 192 else if n=3 then 224 else 240)
 | k+2=>64*xI s n (k+1)+gb s.data.toList (k+1)-128
theorem codeAt_bd (s:ByteArray) (n k:Nat) (hk:k≤4):-100000000≤xI s n k∧xI s n k≤100000000:=by
 have g0:=bZ s.data.toList 0
 have g1:=bZ s.data.toList 1
 have g2:=bZ s.data.toList 2
 have g3:=bZ s.data.toList 3
 have hb:(0:Int)≤(if n=2 then 192 else if n=3 then 224 else 240)∧(if n=2 then 192 else if n=3 then 224 else 240:Int)≤240:=by
  split
  ·omega
  ·split <;> omega
 match k,hk with
 | 0,_=>simp only [xI];omega
 | 1,_=>simp only [xI];omega
 | 2,_=>simp only [xI,Nat.zero_add];omega
 | 3,_=>simp only [xI,Nat.zero_add,Nat.reduceAdd];omega
 | 4,_=>simp only [xI,Nat.zero_add,Nat.reduceAdd];omega
theorem codeAt_all (s:ByteArray) (n:Nat) (h:n=2∨n=3∨n=4):xI s n n=kY s.data.toList n:=by
 rcases h with rfl | rfl | rfl
 ·simp only [xI,kY,Nat.zero_add,Nat.reduceAdd];simp
 ·simp only [xI,kY,Nat.zero_add,Nat.reduceAdd];simp
 ·simp only [xI,kY,Nat.zero_add,Nat.reduceAdd];simp
theorem codeAt_one (s:ByteArray) (n:Nat):xI s n 1=(gb s.data.toList 0:Int)-(if n=2 then 192 else if n=3 then 224 else 240):=rfl
theorem codeAt_next (s:ByteArray) (n k:Nat) (h:1≤k):xI s n (k+1)=64*xI s n k+gb s.data.toList k-128:=by
 match k,h with
 | k+1,_=>rfl
theorem code_any (s:ByteArray) (n:Nat) (h1:1≤n) (h4:n≤4) (hs:n≤s.size) (hmax:s.size≤281474976710656) (w:World) :
  Calls Tryz.prog 175 #[.string s,.int .i64 n] w fun e w'=>e = .returned (.int .i64 (kY s.data.toList n))∧w=w':=by
 have h0:0<s.size:=Ws
 have G0:=qI (gb_at s 0 h0)
 have hb0:(s[0].toNat:Int)≤255:=by have:=s[0].toNat_lt;omega
 have hc:n=1∨n=2∨n=3∨n=4:=Ws
 rcases hc with rfl | hc
 ·have HZ:Hid (kY s.data.toList 1=(s[0].toNat:Int)):=qI (by rw [← G0.o];rfl)
  clear h1 h4
  go_enter func175,ntmps175
  go_wp2_with fail
  go_ret
  rw [HZ.o]
  exact⟨rfl,rfl⟩
 ·have HZ:=qI (codeAt_all s n hc)
  have HB:Hid (∀ k,k≤4→-100000000≤xI s n k∧xI s n k≤100000000):=qI (codeAt_bd s n)
  have f1:=(QI (a:=n) (b:=1) Ws).1
  have Gi:Hid (((((n:Int) == 2)=true∧xI s n 1=(s[0].toNat:Int)-192)∨(((n:Int) == 2)=false∧((n:Int) == 3)=true∧xI s n 1=(s[0].toNat:Int)-224) ∨
    (((n:Int) == 2)=false∧((n:Int) == 3)=false∧((n:Int) == 4)=true∧xI s n 1=(s[0].toNat:Int)-240))):=qI (by
   rw [codeAt_one,G0.o]
   rcases hc with rfl | rfl | rfl <;> simp)
  clear hc
  rcases Gi.o with ⟨g1,hx⟩ | ⟨g1,g2,hx⟩ | ⟨g1,g2,g3,hx⟩
  all_goals
   have HX:=qI hx
   clear hx
   go_enter func175,ntmps175
   go_wp2_with fail
   go_loop [5,6] (fun x i=>∃ k:Nat,1≤k∧k≤n∧i = .int .i64 k∧x = .int .i64 (xI s n k)) (fun _ i=>n-(intOf i).toNat)
   case atStart=>exact⟨1,Ws,Ws,rfl,by rw [HX.o]⟩
   case round=>
    obtain⟨k,hk1,hk,rfl,rfl⟩:=hrel
    have hb:=HB.o k Ws
    by_cases hlt:k<n
    ·have hltI:(k:Int)<n:=by omega
     have hks:k<s.size:=Ws
     have hbk:(s[k].toNat:Int)≤255:=by have:=s[k].toNat_lt;omega
     have HN:Hid (xI s n (k+1)=64*xI s n k+(s[k].toNat:Int)-128):=qI (by rw [codeAt_next s n k hk1,gb_at s k hks])
     revert hb HN
     generalize xI s n k=X
     intro hb HN
     go_wp2_with fail
     go_round
     case rel=>exact⟨k+1,Ws,Ws,by go_num,by rw [HN.o]⟩
     case measure=>simp [intOf];omega
    ·obtain rfl:k=n:=by omega
     go_wp2_with fail
     go_ret
     exact⟨ZZ HZ.o,rfl⟩
theorem vX (n:Nat) (h:n<256):bv (UInt8.ofNat n) = .int .u8 n:=by
 unfold bv
 congr 1
 have:(UInt8.ofNat n).toNat=n:=by simp [UInt8.toNat_ofNat'];omega
 rw [this]
def kT (c:Int):List Value:=
 if c<128 then [.int .u8 c] else if c<2048 then [.int .u8 (192+c/64),.int .u8 (128+c%64)]
 else if c<65536 then [.int .u8 (224+c/4096),.int .u8 (128+c/64%64),.int .u8 (128+c%64)]
 else [.int .u8 (240+c/262144),.int .u8 (128+c/4096%64),.int .u8 (128+c/64%64),.int .u8 (128+c%64)]
theorem refBytes_int (c:Int) (h0:0≤c) (h11:c≤1114111) (w:World) :
  Calls Tryz.prog 177 #[.int .i64 c] w fun e w'=>e = .returned (.slice (some ⟨w.heap.size,0,none⟩) (kT c).length (kT c).length)∧w'=w.alloc (.cells (kT c).toArray 5):=by
 by_cases h1:c<128
 ·have HZ:Hid (kT c=[.int .u8 c]):=qI (by unfold kT;rw [if_pos h1])
  go_enter func177,ntmps177
  go_wp2_with fail
  go_ret
  rw [HZ.o]
  exact⟨rfl,rfl⟩
 by_cases h2:c<2048
 ·have HZ:Hid (kT c=[.int .u8 (192+c/64),.int .u8 (128+c%64)]):=qI (by unfold kT;rw [if_neg h1,if_pos h2])
  go_enter func177,ntmps177
  go_wp2_with fail
  go_ret
  rw [HZ.o]
  exact⟨rfl,rfl⟩
 by_cases h3:c<65536
 ·have HZ:Hid (kT c=[.int .u8 (224+c/4096),.int .u8 (128+c/64%64),.int .u8 (128+c%64)]):=qI (by unfold kT;rw [if_neg h1,if_neg h2,if_pos h3])
  go_enter func177,ntmps177
  go_wp2_with fail
  go_ret
  rw [HZ.o]
  exact⟨rfl,rfl⟩
 ·have HZ:Hid (kT c=[.int .u8 (240+c/262144),.int .u8 (128+c/4096%64),.int .u8 (128+c/64%64),.int .u8 (128+c%64)]):=qI (by unfold kT;rw [if_neg h1,if_neg h2,if_neg h3])
  go_enter func177,ntmps177
  go_wp2_with fail
  go_ret
  rw [HZ.o]
  exact⟨rfl,rfl⟩
theorem bytesZ_rune (m:Nat) (hm:m<55296∨(57344≤m∧m≤1114111)):kT m=(xX m).map bv:=by
 rw [jc m hm]
 unfold kT
 by_cases h1:m<128
 ·rw [if_pos h1,if_pos Ws]
  simp only [List.map_cons,List.map_nil]
  rw [vX _ Ws]
 rw [if_neg h1,if_neg Ws]
 by_cases h2:m<2048
 ·rw [if_pos h2,if_pos Ws]
  simp only [List.map_cons,List.map_nil]
  rw [vX _ Ws,vX _ Ws]
  rfl
 rw [if_neg h2,if_neg Ws]
 by_cases h3:m<65536
 ·rw [if_pos h3,if_pos Ws]
  simp only [List.map_cons,List.map_nil]
  rw [vX _ Ws,vX _ Ws,vX _ Ws]
  rfl
 ·rw [if_neg h3,if_neg Ws]
  simp only [List.map_cons,List.map_nil]
  rw [vX _ Ws,vX _ Ws,vX _ Ws,vX _ Ws]
  rfl
theorem refBytes_any (m:Nat) (hm:m<55296∨(57344≤m∧m≤1114111)) (w:World) :
  Calls Tryz.prog 177 #[.int .i64 m] w fun e w'=>(∃ a c,e = .returned (.slice a (xX m).length c)∧zp w' (.slice a (xX m).length c) (xX m))∧zb [] w w':=
 (refBytes_int m Ws Ws w).mono fun e w' ⟨h1,h2⟩=>by
  have e1:=bytesZ_rune m hm
  have e2:(kT m).length=(xX m).length:=by rw [e1,List.length_map]
  rw [e2] at h1
  rw [e1] at h2
  subst h2
  refine⟨⟨_,_,h1,?_⟩,Wd.alloc _⟩
  have h4:(xX m).length≤4:=(QY m hm).2.2.1
  exact zT w ((xX m).map bv) 1 (xX m).length 5 w.heap.size rfl Wz (by simp only [maxLen];omega)
theorem vI:yU Tryz.prog 53 5 1 1 (.int .u8 0):=⟨underlying53,Wr,rfl,Wo⟩
theorem vt {X:List Nat}{w w':World}(h:zb X w w') (hX:∀ k,k∈X→w.heap.size≤k):zb [] w w':=
 ⟨h.os,h.tape,h.output,h.size,fun k hk _=>h.block k hk (fun hx=>by have:=hX k hx;omega)⟩
def wv (x:Int):Value:=.int .u32 x
def yg (l:List Int) (m:Nat):List Value:=l.map wv++List.replicate m (wv 0)
def accW (b:List UInt8):Int:=b.foldl (fun w c=>bits .or .u32 (w*256%4294967296) (c.toNat:Int)) 0
def s0W (x:Int):Int:=bits .xor .u32 (bits .xor .u32 (yy 33554432 128 x) (yy 16384 262144 x)) (x/8)
def s1W (x:Int):Int:=bits .xor .u32 (bits .xor .u32 (yy 32768 131072 x) (yy 8192 524288 x)) (x/1024)
def nextW (l:List Int):Int:=(l.getD (l.length-16) 0+s0W (l.getD (l.length-15) 0)+l.getD (l.length-7) 0+s1W (l.getD (l.length-2) 0))%4294967296
def yE (b:List UInt8):Nat→List Int
 | 0=>[]
 | t+1=>yE b t++[if t<16 then accW ((b.drop (4*t)).take 4) else nextW (yE b t)]
theorem yf (b:List UInt8):∀ t,(yE b t).length=t
 | 0=>rfl
 | t+1=>by
  show (yE b t++[_]).length=_
  rw [List.length_append,yf b t];rfl
theorem words_len (l:List Int) (m:Nat):(yg l m).length=l.length+m:=by simp [yg]
theorem YG (l:List Int) (m:Nat):yg (l++[0]) m=yg l (m+1):=by
 unfold yg
 rw [List.map_append,List.append_assoc]
 rfl
theorem ZR (l:List Int) (m j:Nat) (h:j<l.length):(yg l m)[j]? = some (wv (l.getD j 0)):=by
 unfold yg
 rw [List.getElem?_append_left (by simpa using h),List.getElem?_map,List.getElem?_eq_getElem h]
 simp [h]
theorem words_set (l:List Int) (m:Nat) (x y:Int):(yg (l++[x]) m).set l.length (wv y)=yg (l++[y]) m:=by
 unfold yg
 rw [List.map_append,List.map_append,List.append_assoc,List.append_assoc]
 rw [List.set_append_right _ _ Wz]
 simp [wv]
theorem Qp (l:List Int) (m:Nat) (x y:Int):(yg (l++[x]) m).toArray.setIfInBounds l.length (wv y)=(yg (l++[y]) m).toArray:=by
 rw [List.setIfInBounds_toArray,words_set]
theorem words_nil (j m:Nat) (h:j<m):(yg [] m)[j]? = some (wv 0):=by
 unfold yg
 simp only [List.map_nil,List.nil_append]
 rw [List.getElem?_replicate,if_pos h]
theorem words_one (l:List Int) (m:Nat):∀ v,v∈yg l m→v.oneCell'=true:=by
 intro v hv
 unfold yg at hv
 rcases List.mem_append.1 hv with h | h
 ·obtain⟨x,-,rfl⟩:=List.mem_map.1 h;rfl
 ·obtain⟨-,rfl⟩:=List.mem_replicate.1 h;rfl
def yW (w:World) (b:Nat) (l:List Int) (m:Nat):Prop:=w.heap[b]? = some (.cells (yg l m).toArray 169 (0,0))
theorem yW.cell {w:World}{b:Nat}{l:List Int}{m j:Nat}(h:yW w b l m) (hj:j<l.length):w.cell? ⟨b,j,none⟩=some (.int .u32 (l.getD j 0)):=
 za h (by have:=ZR l m j hj;simpa [wv] using this)
theorem yW.free {w:World}{b:Nat}{l:List Int}{m j:Nat}(h:yW w b l m):w.frozen? ⟨b,j,none⟩=false:=zh h
theorem yW.kept {X:List Nat}{w w':World}{b:Nat}{l:List Int}{m:Nat}(h:yW w b l m) (k:zb X w w') (hb:b ∉ X):yW w' b l m:=k.heap h hb
theorem yW.store {w:World}{b:Nat}{l:List Int}{m:Nat}{x:Int}(h:yW w b (l++[x]) m) (y:Int):yW (w.setCell ⟨b,l.length,none⟩ (.int .u32 y)) b (l++[y]) m:=
 zg h (Qp l m x y)
theorem sched_any (w:World) (a:Option Addr) (c:Nat) (l:List UInt8) (hl:l.length=64) (hb:zp w (.slice a 64 c) l) :
  CL w 191 #[.slice a 64 c] (.agg (yg (yE l 64) 0).toArray):=by
 obtain⟨W0,Gc⟩:∃ W0,Hid (W0=(w.alloc (.cells (yg [] 64).toArray 169)).alloc (.cells (yg [] 64).toArray 169)):=⟨_,qI rfl⟩
 have Gn:Hid (zb [] w W0):=qI (kA2 Gc.o)
 have Gr:Hid (yW W0 w.heap.size [] 64):=qI (by rw [Gc.o];exact ((zb.refl [] _).alloc _).heap (zd rfl) Wz)
 have Gs:Hid (yW W0 (w.heap.size+1) [] 64):=qI (by rw [Gc.o];exact zd Wz)
 have HB:=qI hb
 have Gp:=qI hl
 clear hb hl
 go_enter func191,ntmps191
 go_upto_region 2 with fail
 refine yq Gc.o ?_
 go_wp2_with fail
 go_loopw [4,6,7,8,9,10,11] (fun _ _ _ _ _ _ i wr=>∃ t:Nat,i = .int .i64 t∧t≤64∧zb [w.heap.size+1] W0 wr∧yW wr (w.heap.size+1) (yE l t) (64-t)) (fun _ _ _ _ _ _ i _=>64-(intOf i).toNat)
 case atStart=>exact⟨0,rfl,Wo,Wd,Gs.o⟩
 case round=>
  obtain⟨t,rfl,ht,hkw,hwd⟩:=hrel
  have Gd:=qI hkw
  have Gt:=qI hwd
  by_cases hlt:t<64
  rotate_left
  ·obtain rfl:t=64:=by omega
   clear hlt ht hkw
   obtain⟨CS,hCS⟩:∃ CS,CS=yg (yE l 64) 0:=⟨_,rfl⟩
   have hlen:CS.length=64:=by rw [hCS,words_len,yf]
   have hra:wr.rangeAt (w.heap.size+1) 0 CS:=fun j v hv=>by
    rw [Nat.zero_add]
    exact za (hwd:_=some (Obj.cells (yg (yE l 64) 0).toArray _ _)) (by rw [← hCS];simpa using hv)
   have hre:yW wr w.heap.size [] 64:=Gr.o.kept Gd.o Wz
   have hth:wr.there w.heap.size 0 CS.toArray.size:=fun j hj=>by
    rw [Nat.zero_add]
    have hj':j<64:=by simpa [hlen] using hj
    have h9:=words_nil j 64 hj'
    exact⟨by rw [za (hre:_=some (Obj.cells (yg [] 64).toArray _ _)) (by simpa using h9)];rfl,zh hre⟩
   have hone:CS.toArray.all (·.oneCell')=true:=Array.all_eq_true_iff_forall_mem.2 (fun v hv=>by rw [hCS] at hv;exact words_one _ _ v (by simpa using hv))
   have Gu:=qI hCS
   have Jg:=qI hre
   have Gv:=qI hlen
   have hi:((Tryz.prog).info? 169).map (·.size)=some CS.length:=by rw [hlen];kernel_rfl
   have hi2:((Tryz.prog).info? 169).map (·.size)=some CS.toArray.size:=by rw [List.size_toArray,hlen];kernel_rfl
   go_upto_region 16 with fail
   refine wp_region_list ?_
   change wpList _ _ _ [_,_] _ _
   refine wpList_load_mid Wk 169 (.tmp 3) Wk (w.heap.size+1) 0 Wk CS _ hra underlying169 rfl hi ?_
   refine wpList_store_mid Wk 169 (.tmp 2) (.tmp 78) Wk w.heap.size 0 CS.toArray Wk Wk hth hi2 hone ?_
   have hraF:(wr.setCells w.heap.size 0 CS.toArray.toList).rangeAt w.heap.size 0 CS:=World.rangeAt_setCells_same _ _ _ _ (by simpa using hth)
   have hkF:=yo w.heap.size CS.toArray.toList 0 wr
   revert hraF hkF
   generalize wr.setCells w.heap.size 0 CS.toArray.toList=WF
   intro hraF hkF
   have hres:=run_loadVar_mid (P:=Tryz.prog) WF w.heap.size 0 169 CS _ hraF underlying169 rfl hi
   have hkW:zb [] w WF:=vt (((Gn.o.mono (Y:=[w.heap.size,w.heap.size+1]) Wz).trans' (Gd.o.mono Wz)).trans' (hkF.mono Wz)) Wz
   clear hCS hlen hra hre hth hone hwd hi hi2 hraF hkF
   try simp only [zA,zN,zB,zC,zD]
   go_wp2_with fail
   exact bodyPost_ret (v:=.agg CS.toArray) (by simp [results,results191,hres,Sem.run_bind,asAddr]) rfl ⟨by rw [Gu.o],hkW⟩
  have hltI:(t:Int)<64:=Ws
  have Gw:Hid (zb [] w wr):=qI (vt ((Gn.o.mono (Y:=[w.heap.size+1]) Wz).trans' hkw) Wz)
  by_cases h16:t<16
  ·have h16I:(t:Int)<16:=by omega
   obtain⟨a2,c2,hs,hby,hvb⟩:=(show zp wr (.slice a 64 c) l from HB.o.kept0 Gw.o).mid vI (4*t) (4*t+4) Ws (by rw [Gp.o];omega)
   have hsc:∀ W,(Instr.slice 53 (.slice a 64 c) (some (.int .i64 (4*(t:Int)))) (some (.int .i64 (4*(t:Int)+4))) none).run Tryz.prog W = .ok (.slice a2 4 c2) W:=fun W=>by
    have h9:=hs W
    rw [show 4*t+4-4*t=4 by omega] at h9
    push_cast at h9
    exact h9
   rw [show 4*t+4-4*t=4 by omega] at hby
   obtain⟨blk,hblk⟩:∃ blk,blk=(l.drop (4*t)).take 4:=⟨_,rfl⟩
   rw [← hblk] at hby
   have hbl:blk.length=4:=by rw [hblk,List.length_take,List.length_drop,Gp.o];omega
   obtain⟨g2,o2,rfl,hrow⟩:∃ g2 o2,a2=some ⟨g2,o2,none⟩∧Row wr g2 o2 (blk.map bv):=by
    rcases hby.2 with ⟨-,h0⟩ | ⟨h0,-⟩ | ⟨g,o,cap,e,-,-,hr⟩
    ·omega
    ·omega
    ·simp only [Value.slice.injEq] at e
     exact⟨g,o,e.1,hr⟩
   have Gj:=qI hrow
   have Gb:=qI hbl
   have Gk:=qI hblk
   have Gl:=qI h16
   have Ga:=qI hlt
   have Gx:Hid (g2≠w.heap.size+1):=qI (by
    have h9:=Slc.lt HB.o (hvb g2 (by rw [show 4*t+4-4*t=4 by omega];rfl))
    omega)
   clear hs hby hvb hblk hbl hrow hkw hwd h16 hlt
   go_wp2_with fail
   obtain⟨WR,rfl⟩:∃ x,x=wr:=⟨_,rfl⟩
   go_loopw [6,24] (fun _ j wq=>∃ k:Nat,j = .int .i64 k∧k≤4∧zb [w.heap.size+1] WR wq∧yW wq (w.heap.size+1) (yE l t++[accW (blk.take k)]) (63-t)) (fun _ j _=>4-(intOf j).toNat)
   case atStart=>exact⟨0,rfl,Wo,Wd,by
    have h9:=Gt.o
    unfold yW at h9 ⊢
    rw [show 64-t=(63-t)+1 by have:=Ga.o;omega,← YG] at h9
    exact h9⟩
   case round=>
    obtain⟨k,rfl,hk,hk2,hw2⟩:=hrel
    have Ge:=qI hk2
    have Gq:=qI hw2
    by_cases hk4:k<4
    rotate_left
    ·obtain rfl:k=4:=by omega
     clear hk hk2 hw2 hk4
     go_wp2_with fail
     case roundEnd=>exact⟨⟨t+1,by go_num,by have:=Ga.o;omega,Gd.o.trans' Ge.o,by
      have h9:=Gq.o
      rw [List.take_of_length_le (by rw [Gb.o];exact Nat.le_refl _),Gk.o] at h9
      show yW _ _ (yE l t++[if t<16 then _ else _]) _
      rw [if_pos Gl.o,show 64-(t+1)=63-t by omega]
      exact h9⟩,by have:=Ga.o;simp [intOf];omega⟩
    have hk4I:(k:Int)<4:=Ws
    have hq:=Gj.o.cells k (bv (blk[k]'(by rw [Gb.o];exact hk4))) (by rw [List.getElem?_map,List.getElem?_eq_getElem (by rw [Gb.o];exact hk4)];rfl)
    obtain⟨cc,hcc⟩:∃ cc,cc=blk[k]'(by rw [Gb.o];exact hk4):=⟨_,rfl⟩
    rw [← hcc] at hq
    have q0:wr.cell? ⟨g2,o2+k,none⟩=some (.int .u8 (cc.toNat:Int)):=hk2.cell hq (by simpa using Gx.o)
    obtain⟨A,hA⟩:∃ A,A=accW (blk.take k):=⟨_,rfl⟩
    have hct:w.heap.size+1=w.heap.size+1:=rfl
    have q1:wr.cell? ⟨w.heap.size+1,t,none⟩=some (.int .u32 A):=by
     have h9:=hw2.cell (j:=t) (by rw [List.length_append,yf];simp)
     rw [h9,hA]
     simp [List.getD_eq_getElem?_getD,yf]
    have z1:wr.frozen? ⟨w.heap.size+1,t,none⟩=false:=hw2.free
    have hc0:(0:Int)≤cc.toNat:=Ws
    have hc1:(cc.toNat:Int)<256:=by have:=cc.toNat_lt;omega
    have hc2:(cc.toNat:Int)%4294967296=cc.toNat:=by have:=cc.toNat_lt;omega
    have Gm:Hid (accW (blk.take (k+1))=bits .or .u32 (A*256%4294967296) (cc.toNat:Int)):=qI (by
     rw [List.take_succ_eq_append_getElem (by rw [Gb.o];exact hk4),hA,hcc]
     unfold accW
     rw [List.foldl_append];rfl)
    have Gf:=qI hk4
    clear hk hk2 hw2 hk4 hq hct hA hcc
    go_wp2_with fail
    case roundEnd=>exact⟨⟨k+1,by go_num,by have:=Gf.o;omega,Ge.o.trans' ((zb.refl [w.heap.size+1] wr).setCell (.inl Wz) _),by
     have h9:=Gq.o.store (bits .or .u32 (A*256%4294967296) (cc.toNat:Int))
     rw [yf] at h9
     rw [Gm.o]
     exact h9⟩,by have:=Gf.o;simp [intOf];omega⟩
  obtain⟨q,rfl⟩:∃ q,t=q+16:=⟨t - 16,Ws⟩
  have Ga:=qI hlt
  obtain⟨A,hA⟩:∃ A,A=(yE l (q+16)).getD (q+1) 0:=⟨_,rfl⟩
  obtain⟨B,hB⟩:∃ B,B=(yE l (q+16)).getD (q+14) 0:=⟨_,rfl⟩
  obtain⟨C,hC⟩:∃ C,C=(yE l (q+16)).getD q 0:=⟨_,rfl⟩
  obtain⟨D,hD⟩:∃ D,D=(yE l (q+16)).getD (q+9) 0:=⟨_,rfl⟩
  have Gy:Hid (yE l (q+16+1)=yE l (q+16)++[(C+s0W A+D+s1W B)%4294967296]):=qI (by
   show yE l (q+16)++[if q+16<16 then _ else _]=_
   rw [if_neg Ws]
   unfold nextW
   rw [yf,hA,hB,hC,hD,show q+16-16=q by omega,show q+16-15=q+1 by omega,show q+16-7=q+9 by omega,show q+16-2=q+14 by omega])
  have cA:wr.cell? ⟨w.heap.size+1,q+1,none⟩=some (.int .u32 A):=by rw [hA];exact hwd.cell (by rw [yf];omega)
  have cB:wr.cell? ⟨w.heap.size+1,q+14,none⟩=some (.int .u32 B):=by rw [hB];exact hwd.cell (by rw [yf];omega)
  have Gz:Hid (wr.cell? ⟨w.heap.size+1,q,none⟩=some (.int .u32 C)):=qI (by rw [hC];exact hwd.cell (by rw [yf];omega))
  have Ja:Hid (wr.cell? ⟨w.heap.size+1,q+9,none⟩=some (.int .u32 D)):=qI (by rw [hD];exact hwd.cell (by rw [yf];omega))
  have Jb:Hid (yW wr (w.heap.size+1) (yE l (q+16)++[0]) (63-(q+16))):=qI (by
   have h9:=hwd
   unfold yW at h9 ⊢
   rw [show 64-(q+16)=(63-(q+16))+1 by omega,← YG] at h9
   exact h9)
  have hqI:(q:Int)+16<64:=Ws
  have hq0:(0:Int)≤q:=Ws
  have hq64:(q:Int)<64:=Ws
  have hw0:IntKind.i64.wrap (q:Int)=q:=by rw [IntKind.wrap_i64];omega
  have hw7:IntKind.i64.wrap ((q:Int)+16-7)=q+9:=by rw [IntKind.wrap_i64];omega
  have hq9:(0:Int)≤q+9:=Ws
  have hq94:(q:Int)+9<64:=Ws
  have hqn:((q:Int)+9).toNat=q+9:=Ws
  have hq16:(0:Int)≤q+16:=Ws
  have hqn16:((q:Int)+16).toNat=q+16:=Ws
  have h16I:¬ (q:Int)+16<16:=Ws
  clear hA hB hC hD hwd hkw ht hlt h16 hltI
  go_wp2_with fail
  have EA:=zz cA
  have EB:=zz cB
  clear cA cB
  refine yn wr Wr Wr Wd ?_
  repeat go_big_quiet_step (fail)
  refine wpQuiet_nil ?_
  intro w2 hk2
  have Ge:=qI hk2
  clear EA EB hk2
  go_wp2_with fail
  refine (kG _ A 7 33554432 128 (by unfold qi;decide)).mono ?_
  rintro e w3 ⟨rfl,hk3⟩
  have Jc:=qI (Ge.o.then hk3)
  clear hk3
  go_wp2_with fail
  refine (kG _ A 18 16384 262144 (by unfold qi;decide)).mono ?_
  rintro e w4 ⟨rfl,hk4⟩
  have Gf:=qI (Jc.o.then hk4)
  clear hk4
  go_wp2_with fail
  refine (kG _ B 17 32768 131072 (by unfold qi;decide)).mono ?_
  rintro e w5 ⟨rfl,hk5⟩
  have Jd:=qI (Gf.o.then hk5)
  clear hk5
  go_wp2_with fail
  refine (kG _ B 19 8192 524288 (by unfold qi;decide)).mono ?_
  rintro e w6 ⟨rfl,hk6⟩
  have Gg:=qI (Jd.o.then hk6)
  clear hk6
  go_upto_region 14 with fail
  have c16:=Gg.o.cell Gz.o Wz
  have c7:=Gg.o.cell Ja.o Wz
  have Je:=qI (Jb.o.kept Gg.o Wz)
  refine zv (n:=16) (fun w':World=>zb [] w6 w') 15 Wr Wr ?_
  change zX _ _ _ _ _ _ _ _ _ w6.drew
  have hSS:(fun w':World=>zb [] w6 w') w6.drew:=(zb.refl _ w6).drew
  have Gh:Hid (zb [] w6 w6.drew):=qI (zb.refl _ w6).drew
  revert hSS Gh
  generalize w6.drew=WD
  intro hSS Gh
  refine zL ?_
  intro O R hO hR
  have hQp:jC R:=by subst hR;exact fun _ _ _ _ _ h=>h
  refine qT 0 ?_ hO rfl rfl Wr hQp (fun w hSw=>?_) hSS ?_
  rotate_left
  ·exact zi
  try simp only [zA,zN,zB,zC,zD]
  refine qT 1 ?_ hO rfl rfl Wr hQp (fun w hSw=>?_) hSS ?_
  rotate_left
  ·exact zi
  try simp only [zA,zN,zB,zC,zD]
  refine qT 2 ?_ hO rfl rfl Wr hQp (fun w hSw=>?_) hSS ?_
  rotate_left
  ·exact zi
  try simp only [zA,zN,zB,zC,zD]
  refine qT 3 ?_ hO rfl rfl Wr hQp (fun w hSw=>?_) hSS ?_
  rotate_left
  ·exact zi
  try simp only [zA,zN,zB,zC,zD]
  refine qT 4 ?_ hO rfl rfl Wr hQp (fun w hSw=>?_) hSS ?_
  rotate_left
  ·have s0:=hSw.cell c16 Wz;exact zi
  try simp only [zA,zN,zB,zC,zD]
  refine qT 5 ?_ hO rfl rfl Wr hQp (fun w hSw=>?_) hSS ?_
  rotate_left
  ·exact zi
  try simp only [zA,zN,zB,zC,zD]
  refine qT 6 ?_ hO rfl rfl Wr hQp (fun w hSw=>?_) hSS ?_
  rotate_left
  ·exact zi
  try simp only [zA,zN,zB,zC,zD]
  refine qT 7 ?_ hO rfl rfl Wr hQp (fun w hSw=>?_) hSS ?_
  rotate_left
  ·exact zi
  try simp only [zA,zN,zB,zC,zD]
  refine qT 8 ?_ hO rfl rfl Wr hQp (fun w hSw=>?_) hSS ?_
  rotate_left
  ·exact zi
  try simp only [zA,zN,zB,zC,zD]
  refine qT 9 ?_ hO rfl rfl Wr hQp (fun w hSw=>?_) hSS ?_
  rotate_left
  ·exact zi
  try simp only [zA,zN,zB,zC,zD]
  refine qT 10 ?_ hO rfl rfl Wr hQp (fun w hSw=>?_) hSS ?_
  rotate_left
  ·have s0:=hSw.cell c7 Wz;exact zi
  try simp only [zA,zN,zB,zC,zD]
  refine qT 11 ?_ hO rfl rfl Wr hQp (fun w hSw=>?_) hSS ?_
  rotate_left
  ·exact zi
  try simp only [zA,zN,zB,zC,zD]
  refine qT 12 ?_ hO rfl rfl Wr hQp (fun w hSw=>?_) hSS ?_
  rotate_left
  ·exact zi
  try simp only [zA,zN,zB,zC,zD]
  refine qT 13 ?_ hO rfl rfl Wr hQp (fun w hSw=>?_) hSS ?_
  rotate_left
  ·exact zi
  try simp only [zA,zN,zB,zC,zD]
  refine qT 14 ?_ hO rfl rfl Wr hQp (fun w hSw=>?_) hSS ?_
  rotate_left
  ·exact zi
  try simp only [zA,zN,zB,zC,zD]
  have zc:=Je.o.kept Gh.o Wz
  have zs:WD.cell? ⟨w.heap.size+1,q+16,none⟩=some (.int .u32 0):=by
   have h9:=zc.cell (j:=q+16) (by rw [List.length_append,yf];simp)
   rw [h9]
   simp [List.getD_eq_getElem?_getD,yf]
  have zf:WD.frozen? ⟨w.heap.size+1,q+16,none⟩=false:=zc.free
  have Jf:=qI zc
  refine qO 15 hO rfl Wr (fun K hK=>?_)
  go_simp
  refine hK _ _ (.inl rfl) ?_
  clear hK K
  try simp only [zA,zN,zB,zC,zD]
  refine zF hO Wr ?_ _
  subst hR
  try clear hQp hO O
  clear zs zf zc hSS c16 c7
  have hst:=Jf.o.store ((C+s0W A+D+s1W B)%4294967296)
  rw [yf] at hst
  have Gi:=qI hst
  clear hst
  simp only [IntKind.wrap_u32']
  go_wp2_with fail
  case roundEnd=>exact⟨⟨q+16+1,by go_num,by have:=Ga.o;omega,(Gd.o.trans' ((Gg.o.then Gh.o).mono (Y:=[w.heap.size+1]) Wz)).trans' ((zb.refl [w.heap.size+1] WD).setCell (.inl Wz) _),by
   rw [Gy.o,show 64-(q+16+1)=63-(q+16) by omega]
   exact Gi.o⟩,by have:=Ga.o;simp [intOf];omega⟩
end Go.Proofs.YtibnfbglanpoiaaGreatDoor

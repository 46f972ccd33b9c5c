/- Parts of one proof, merged: XVD XVN XK3A XKN XKO XKP. -/
import Derived.Test.YtibnfbglanpoiaaGreatDoorQcF
import Derived.Test.YtibnfbglanpoiaaGreatDoorQcB
import Derived.WalkSpells
import Derived.IntWalk
import Derived.Test.YtibnfbglanpoiaaGreatDoorQcE
import Derived.Laws.Cover1
import Derived.Test.YtibnfbglanpoiaaGreatDoorQcD
import Derived.Shelf.SlSortCmp.NoneTotal
import Derived.Deep.MidRow
set_option linter.all false
set_option maxHeartbeats 12800000
set_option maxRecDepth 10000
set_option linter.unusedVariables false
set_option linter.unusedSimpArgs false
set_option linter.unnecessarySimpa false
namespace Go.Proofs.YtibnfbglanpoiaaGreatDoor
open Go.Proofs.Tryz
open Go.Lib (itoa)
def ltB (a b:ByteArray):Bool:=decide (a.data.toList < b.data.toList)
section
variable {α : Type} (sub : α → α → List ByteArray)
end
theorem ltB_none {a b:ByteArray}(h1:¬ ltB a b=true) (h2:¬ ltB b a=true):a=b:=by
 unfold ltB at h1 h2
 rw [decide_eq_true_iff] at h1 h2
 exact ba_eq (List.le_antisymm (List.not_lt.1 h2) (List.not_lt.1 h1))
theorem ltB_asymm {a b:ByteArray}(h1:ltB a b=true):¬ ltB b a=true:=by
 unfold ltB at h1 ⊢
 rw [decide_eq_true_iff] at h1 ⊢
 exact List.lt_asymm h1
open Go.Lib (decodeL decodeN)
def kz (s:List UInt8) (n:Nat):Int:=
 if n=1 then gb s 0 else if n=2 then 64 * ((gb s 0:Int) - 192) + gb s 1 - 128
 else if n=3 then 64 * (64 * ((gb s 0:Int) - 224) + gb s 1 - 128) + gb s 2 - 128
 else 64 * (64 * (64 * ((gb s 0:Int) - 240) + gb s 1 - 128) + gb s 2 - 128) + gb s 3 - 128
def Z6 (c:Int):Bool:=decide (0≤c) && decide (c≤1114111) && (decide (c < 55296) || decide (57343 < c))
def qP:Nat→Nat→List UInt8→Int × Nat
 | 0,_,_=>(-1,0)
 | f + 1,n,s=>if n≤4∧n≤s.length then (if Z6 (kz s n)=true∧xG (kz s n).toNat=s.take n then (kz s n,n) else qP f (n + 1) s) else (-1,0)
def vS (s:List UInt8):Int × Nat:=if s=[]∨((decodeL s).1=65533∧(decodeL s).2=1) then (-1,0) else ((decodeL s).1,(decodeL s).2)
theorem Z7 {c:Int}:Z6 c=true↔∃ m:Nat,c=m∧(m < 55296∨(57344≤m∧m≤1114111)):=by
 unfold Z6
 simp only [Bool.and_eq_true,Bool.or_eq_true,decide_eq_true_eq]
 constructor
 ·intro h
  exact⟨c.toNat,by omega,by omega⟩
 ·rintro ⟨m,rfl,h⟩
  omega
theorem gb_take {s:List UInt8}{k i:Nat}(h:i < k):gb (s.take k) i=gb s i:=by
 unfold gb
 rw [List.getD_eq_getElem?_getD,List.getD_eq_getElem?_getD,List.getElem?_take_of_lt h]
theorem code_of {s:List UInt8}{c k:Nat}(D:Decoded s c k):kz s k=c∧k≤4:=by
 have hr:=D.rune
 have hv:=D.valid
 have hl:(s.take k).length=k:=by rw [List.length_take];have:=D.le;omega
 have g:∀ i,i < k→gb s i=gb (xG c) i:=fun i hi=>by rw [hr,gb_take hi]
 rw [← hr] at hl
 rw [kH c hv] at hl g
 clear hr
 by_cases c1:c < 128
 ·rw [if_pos c1] at hl g
  have hk:k=1:=hl.symm
  subst hk
  have g0:=g 0 (by omega)
  rw [kg _ _ (by omega)] at g0
  refine⟨?_,by decide⟩
  unfold kz
  rw [if_pos rfl,g0]
 rw [if_neg c1] at hl g
 by_cases c2:c < 2048
 ·rw [if_pos c2] at hl g
  have hk:k=2:=hl.symm
  subst hk
  have g0:=g 0 (by omega)
  have g1:=g 1 (by omega)
  rw [kg _ _ (by omega)] at g0
  rw [YR _ _ _ (by omega)] at g1
  refine⟨?_,by decide⟩
  unfold kz
  rw [if_neg (by decide),if_pos rfl,g0,g1]
  omega
 rw [if_neg c2] at hl g
 by_cases c3:c < 65536
 ·rw [if_pos c3] at hl g
  have hk:k=3:=hl.symm
  subst hk
  have g0:=g 0 (by omega)
  have g1:=g 1 (by omega)
  have g2:=g 2 (by omega)
  rw [kg _ _ (by omega)] at g0
  rw [YR _ _ _ (by omega)] at g1
  rw [gb_two _ _ _ _ (by omega)] at g2
  refine⟨?_,by decide⟩
  unfold kz
  rw [if_neg (by decide),if_neg (by decide),if_pos rfl,g0,g1,g2]
  omega
 ·rw [if_neg c3] at hl g
  have hk:k=4:=hl.symm
  subst hk
  have g0:=g 0 (by omega)
  have g1:=g 1 (by omega)
  have g2:=g 2 (by omega)
  have g3:=g 3 (by omega)
  rw [kg _ _ (by omega)] at g0
  rw [YR _ _ _ (by omega)] at g1
  rw [gb_two _ _ _ _ (by omega)] at g2
  rw [gb_three _ _ _ _ _ (by omega)] at g3
  refine⟨?_,by decide⟩
  unfold kz
  rw [if_neg (by decide),if_neg (by decide),if_neg (by decide),g0,g1,g2,g3]
  omega
theorem match_of {s:List UInt8}{c n:Nat}(hc:c < 55296∨(57344≤c∧c≤1114111)) (hn:n≤s.length) (h:xG c=s.take n):decodeL s=(c,n)∧¬ (c=65533∧n=1)∧s≠[]:=by
 obtain⟨h1,h2,h3,h4,h5⟩:=Qm c hc
 have hl:(xG c).length=n:=by rw [h,List.length_take];omega
 rw [hl] at h1 h2 h5
 have hb:¬ (c=65533∧n=1):=fun q=>by have:=h5 q.2;omega
 have D:=decoded (l:=xG c) (by intro q;rw [q] at hl;simp at hl;omega) (by rw [h1];exact hb)
 rw [h1] at D
 have hm:=D.more (s.drop n)
 have e:(xG c).take n=xG c:=List.take_of_length_le (by omega)
 have hm:decodeL ((xG c).take n ++ s.drop n)=(c,n):=hm
 rw [e,h,List.take_append_drop] at hm
 exact⟨hm,hb,by intro q;subst q;simp at hn;omega⟩
theorem nextGo_none:∀ (f n:Nat) (s:List UInt8),(s=[]∨((decodeL s).1=65533∧(decodeL s).2=1))→qP f n s=(-1,0):=by
 intro f
 induction f with
 | zero=>intro n s _;rfl
 | succ f ih=>
  intro n s h
  unfold qP
  split
  ·rename_i hn
   rw [if_neg,ih _ _ h]
   rintro ⟨q1,q2⟩
   obtain⟨m,e,hm⟩:=Z7.1 q1
   rw [e,Int.toNat_natCast] at q2
   obtain⟨g1,g2,g3⟩:=match_of hm hn.2 q2
   rcases h with h | h
   ·exact g3 h
   ·rw [g1] at h;exact g2 h
  ·rfl
theorem nextGo_some:∀ (f n:Nat) (s:List UInt8) (c k:Nat),Decoded s c k→¬ (c=65533∧k=1)→n≤k→k < n + f→qP f n s=((c:Int),k):=by
 intro f
 induction f with
 | zero=>intro n s c k _ _ h1 h2;omega
 | succ f ih=>
  intro n s c k D hb h1 h2
  obtain⟨e,h4⟩:=code_of D
  have hle:=D.le
  unfold qP
  rw [if_pos ⟨by omega,by omega⟩]
  by_cases hk:n=k
  ·subst hk
   rw [if_pos,e]
   rw [e,Int.toNat_natCast]
   exact⟨Z7.2 ⟨c,rfl,D.valid⟩,D.rune⟩
  ·rw [if_neg]
   ·exact ih (n + 1) s c k D hb (by omega) (by omega)
   ·rintro ⟨q1,q2⟩
    obtain⟨m,e,hm⟩:=Z7.1 q1
    rw [e,Int.toNat_natCast] at q2
    obtain⟨g1,g2,g3⟩:=match_of hm (by omega) q2
    have:=D.eq.symm.trans g1
    exact hk (Prod.mk.inj this).2.symm
theorem nextGo_eq (s:List UInt8):qP 4 1 s=vS s:=by
 unfold vS
 by_cases h:s=[]∨((decodeL s).1=65533∧(decodeL s).2=1)
 ·rw [if_pos h,nextGo_none _ _ _ h]
 ·rw [if_neg h]
  have D:=decoded (fun q=>h (.inl q)) (fun q=>h (.inr q))
  exact nextGo_some 4 1 s _ _ D (fun q=>h (.inr q)) D.pos (by have:=(code_of D).2;omega)
open Go.RowKit
theorem vT {a b:Bool}(h:a=b):Ending.returned (.bool a) = .returned (.bool b):=by rw [h]
theorem Zf {k:IntKind}{a b:Int}(h:a=b):Ending.returned (.int k a) = .returned (.int k b):=by rw [h]
theorem gb_at (s:ByteArray) (k:Nat) (h:k < s.size):(gb s.data.toList k:Int)=(s[k].toNat:Int):=by
 unfold gb
 have h':k < s.data.toList.length:=by simpa using h
 rw [List.getD_eq_getElem?_getD,List.getElem?_eq_getElem h']
 rfl
theorem ext_list (s:ByteArray) (i j:Nat) (hj:j≤s.size):(s.extract i j).data.toList=(s.data.toList.take j).drop i:=by
 rw [ByteArray.data_extract,Array.toList_extract,List.extract_eq_take_drop,List.drop_take]
theorem ext_from (s:ByteArray) (i:Nat):(s.extract i s.size).data.toList=s.data.toList.drop i:=by
 rw [ext_list s i s.size (Nat.le_refl _),List.take_of_length_le (by simp)]
theorem may_any (c:Int) (w:World):Calls Tryz.prog 176 #[.int .i64 c] w fun e w'=>e = .returned (.bool (Z6 c))∧w=w':=by
 by_cases h0:0≤c
 ·by_cases h1:c≤1114111
  ·by_cases h2:c < 55296
   ·have HM:Hid (true=Z6 c):=qI (by unfold Z6;simp [h0,h1,h2])
    go_enter func176,ntmps176
    go_wp2_with fail
    go_ret
    exact⟨vT HM.o,rfl⟩
   ·have HM:Hid (decide (57343 < c)=Z6 c):=qI (by unfold Z6;simp [h0,h1,h2])
    go_enter func176,ntmps176
    go_wp2_with fail
    go_ret
    exact⟨vT HM.o,rfl⟩
  ·have HM:Hid (Z6 c=false):=qI (by unfold Z6;simp;omega)
   go_enter func176,ntmps176
   go_wp2_with fail
   go_ret
   exact⟨vT HM.o.symm,rfl⟩
 ·have HM:Hid (Z6 c=false):=qI (by unfold Z6;simp;omega)
  go_enter func176,ntmps176
  go_wp2_with fail
  go_ret
  exact⟨vT HM.o.symm,rfl⟩
theorem yx {a b:Int}(h:a≠b):(a == b)=false∧(a != b)=true:=by simp [h]
theorem YW {a b:Nat}(h:a≠b):((a:Int) == (b:Int))=false∧((a:Int) != (b:Int))=true:=yx (by omega)
theorem toList_inj {a b:ByteArray}(h:a.toList=b.toList):a=b:=by
 rw [ByteArray.toList_eq,ByteArray.toList_eq] at h
 cases a;cases b
 simp only [ByteArray.mk.injEq] at *
 exact Array.toList_inj.1 h
theorem kF {a b:ByteArray}(h:a≠b):(a.toList == b.toList)=false∧(a.toList != b.toList)=true:=by
 have:a.toList≠b.toList:=fun e=>h (toList_inj e)
 simp [this]
theorem k9 {a b:ByteArray}(h:a=b):(a.toList == b.toList)=true∧(a.toList != b.toList)=false:=by
 subst h;simp
theorem xt {a b:Int}(h:a=b):(a == b)=true∧(a != b)=false:=by simp [h]
theorem nat_eq {a b:Nat}(h:a=b):((a:Int) == (b:Int))=true∧((a:Int) != (b:Int))=false:=by simp [h]
def xr (s:ByteArray) (n:Nat):Nat→Int
 | 0=>0
 | 1=>(gb s.data.toList 0:Int) - (if n=2 then 192 else if n=3 then 224 else 240)
 | k + 2=>64 * xr s n (k + 1) + gb s.data.toList (k + 1) - 128
theorem codeAt_bd (s:ByteArray) (n k:Nat) (hk:k≤4):-100000000≤xr s n k∧xr s n k≤100000000:=by
 have g0:=bA s.data.toList 0
 have g1:=bA s.data.toList 1
 have g2:=bA s.data.toList 2
 have g3:=bA s.data.toList 3
 have hb:(0:Int)≤(if n=2 then 192 else if n=3 then 224 else 240)∧(if n=2 then 192 else if n=3 then 224 else 240:Int)≤240:=by
  split
  ·omega
  ·split <;> omega
 match k,hk with
 | 0,_=>simp only [xr];omega
 | 1,_=>simp only [xr];omega
 | 2,_=>simp only [xr,Nat.zero_add];omega
 | 3,_=>simp only [xr,Nat.zero_add,Nat.reduceAdd];omega
 | 4,_=>simp only [xr,Nat.zero_add,Nat.reduceAdd];omega
theorem codeAt_all (s:ByteArray) (n:Nat) (h:n=2∨n=3∨n=4):xr s n n=kz s.data.toList n:=by
 rcases h with rfl | rfl | rfl
 ·simp only [xr,kz,Nat.zero_add,Nat.reduceAdd];simp
 ·simp only [xr,kz,Nat.zero_add,Nat.reduceAdd];simp
 ·simp only [xr,kz,Nat.zero_add,Nat.reduceAdd];simp
theorem codeAt_one (s:ByteArray) (n:Nat):xr s n 1=(gb s.data.toList 0:Int) - (if n=2 then 192 else if n=3 then 224 else 240):=rfl
theorem codeAt_next (s:ByteArray) (n k:Nat) (h:1≤k):xr s n (k + 1)=64 * xr s n k + gb s.data.toList k - 128:=by
 match k,h with
 | k + 1,_=>rfl
theorem code_any (s:ByteArray) (n:Nat) (h1:1≤n) (h4:n≤4) (hs:n≤s.size) (hmax:s.size≤281474976710656) (w:World) :
  Calls Tryz.prog 175 #[.string s,.int .i64 n] w fun e w'=>e = .returned (.int .i64 (kz s.data.toList n))∧w=w':=by
 have h0:0 < s.size:=by omega
 have G0:=qI (gb_at s 0 h0)
 have hb0:(s[0].toNat:Int)≤255:=by have:=s[0].toNat_lt;omega
 have hc:n=1∨n=2∨n=3∨n=4:=by omega
 rcases hc with rfl | hc
 ·have HZ:Hid (kz s.data.toList 1=(s[0].toNat:Int)):=qI (by rw [← G0.o];rfl)
  clear h1 h4
  go_enter func175,ntmps175
  go_wp2_with fail
  go_ret
  rw [HZ.o]
  exact⟨rfl,rfl⟩
 ·have HZ:=qI (codeAt_all s n hc)
  have HB:Hid (∀ k,k≤4→-100000000≤xr s n k∧xr s n k≤100000000):=qI (codeAt_bd s n)
  have f1:=(YW (a:=n) (b:=1) (by omega)).1
  have Ga:Hid (((((n:Int) == 2)=true∧xr s n 1=(s[0].toNat:Int) - 192)∨(((n:Int) == 2)=false∧((n:Int) == 3)=true∧xr s n 1=(s[0].toNat:Int) - 224) ∨
    (((n:Int) == 2)=false∧((n:Int) == 3)=false∧((n:Int) == 4)=true∧xr s n 1=(s[0].toNat:Int) - 240))):=qI (by
   rw [codeAt_one,G0.o]
   rcases hc with rfl | rfl | rfl <;> simp)
  clear hc
  rcases Ga.o with ⟨g1,hx⟩ | ⟨g1,g2,hx⟩ | ⟨g1,g2,g3,hx⟩
  all_goals
   have HX:=qI hx
   clear hx
   go_enter func175,ntmps175
   go_wp2_with fail
   go_loop [5,6] (fun x i=>∃ k:Nat,1≤k∧k≤n∧i = .int .i64 k∧x = .int .i64 (xr s n k)) (fun _ i=>n - (intOf i).toNat)
   case atStart=>exact⟨1,by omega,by omega,rfl,by rw [HX.o]⟩
   case round=>
    obtain⟨k,hk1,hk,rfl,rfl⟩:=hrel
    have hb:=HB.o k (by omega)
    by_cases hlt:k < n
    ·have hltI:(k:Int) < n:=by omega
     have hks:k < s.size:=by omega
     have hbk:(s[k].toNat:Int)≤255:=by have:=s[k].toNat_lt;omega
     have HN:Hid (xr s n (k + 1)=64 * xr s n k + (s[k].toNat:Int) - 128):=qI (by rw [codeAt_next s n k hk1,gb_at s k hks])
     revert hb HN
     generalize xr s n k=X
     intro hb HN
     go_wp2_with fail
     go_round
     case rel=>exact⟨k + 1,by omega,by omega,by go_num,by rw [HN.o]⟩
     case measure=>simp [intOf];omega
    ·obtain rfl:k=n:=by omega
     go_wp2_with fail
     go_ret
     exact⟨Zf HZ.o,rfl⟩
open Go.Sort (grow flatK size_flatK get_flatK putRowK HoldsK)
def K8 (a b:ByteArray):Int:=if ltB a b=true then -1 else if ltB b a=true then 1 else 0
theorem less_eq (a b:ByteArray):Op.bytesLess a.toList b.toList=ltB a b:=by
 rw [ByteArray.toList_eq,ByteArray.toList_eq,YE]
 rfl
theorem compare_any (a b:ByteArray) (w:World):Calls Tryz.prog 218 #[.string a,.string b] w fun e w'=>e = .returned (.int .i64 (K8 a b))∧w=w':=by
 by_cases h1:ltB a b=true
 ·have f1:Op.bytesLess a.toList b.toList=true:=by rw [less_eq];exact h1
  have HF:Hid (K8 a b = -1):=qI (by unfold K8;rw [if_pos h1])
  clear h1
  go_enter func218,ntmps218
  go_wp2
  go_ret
  rw [HF.o]
  exact⟨rfl,rfl⟩
 have f1:Op.bytesLess a.toList b.toList=false:=by rw [less_eq];simpa using h1
 by_cases h2:ltB b a=true
 ·have hne:a≠b:=fun e=>by subst e;exact h1 h2
  have f2:=(kF hne).1
  have HF:Hid (K8 a b=1):=qI (by unfold K8;rw [if_neg h1,if_pos h2])
  clear h1 h2 hne
  go_enter func218,ntmps218
  go_wp2
  go_ret
  rw [HF.o]
  exact⟨rfl,rfl⟩
 ·have he:a=b:=ltB_none h1 h2
  have f2:=(k9 he).1
  have HF:Hid (K8 a b=0):=qI (by unfold K8;rw [if_neg h1,if_neg h2])
  clear h1 h2 he
  go_enter func218,ntmps218
  go_wp2
  go_ret
  rw [HF.o]
  exact⟨rfl,rfl⟩
structure PC where
 key:ByteArray
 k:Int
 m:Int
 s:ByteArray
 p:Option Addr
 i:Nat
 c:Nat
 q:Option Addr
 j:Nat
 d:Nat
instance pcInh:Inhabited PC:=⟨⟨⟨#[]⟩,0,0,⟨#[]⟩,none,0,0,none,0,0⟩⟩
def PC.cs (x:PC):List Value:=[.int .i64 x.k,.int .i64 x.m,.string x.s,.slice x.p x.i x.c,.slice x.q x.j x.d]
def PC.enc (x:PC):List Value:=.string x.key :: x.cs
def PC.cf (x y:PC):Int:=K8 x.key y.key
theorem PC.enc_len (x:PC):x.enc.length=6:=rfl
theorem PC.enc_one (x:PC):∀ v ∈ x.enc,v.oneCell'=true:=by
 intro v hv
 simp only [PC.enc,PC.cs,List.mem_cons,List.not_mem_nil,or_false] at hv
 rcases hv with rfl | rfl | rfl | rfl | rfl | rfl <;> rfl
theorem byKey_any (x y:PC) (w:World):Calls Tryz.prog 208 #[.agg x.enc.toArray,.agg y.enc.toArray] w fun e w'=>e = .returned (.int .i64 (x.cf y))∧w'=grow (w.drewN 0) #[.cells x.enc.toArray 132,.cells y.enc.toArray 132]:=by
 obtain⟨key,k,m,s,p,i,c,q,j,d⟩:=x
 obtain⟨key',k',m',s',p',i',c',q',j',d'⟩:=y
 have HW:Hid (grow (w.drewN 0) #[.cells #[.string key,.int .i64 k,.int .i64 m,.string s,.slice p i c,.slice q j d] 132,.cells #[.string key',.int .i64 k',.int .i64 m',.string s',.slice p' i' c',.slice q' j' d'] 132]=(w.alloc (.cells #[.string key,.int .i64 k,.int .i64 m,.string s,.slice p i c,.slice q j d] 132)).alloc (.cells #[.string key',.int .i64 k',.int .i64 m',.string s',.slice p' i' c',.slice q' j' d'] 132)):=qI (by
  rw [Sort.alloc_eq_grow,Sort.alloc_eq_grow,Sort.grow_grow];rfl)
 show Calls Tryz.prog 208 #[.agg #[.string key,.int .i64 k,.int .i64 m,.string s,.slice p i c,.slice q j d],.agg #[.string key',.int .i64 k',.int .i64 m',.string s',.slice p' i' c',.slice q' j' d']] w fun e w'=>e = .returned (.int .i64 (K8 key key'))∧w'=grow (w.drewN 0) #[.cells #[.string key,.int .i64 k,.int .i64 m,.string s,.slice p i c,.slice q j d] 132,.cells #[.string key',.int .i64 k',.int .i64 m',.string s',.slice p' i' c',.slice q' j' d'] 132]
 rw [HW.o]
 go_enter func208,ntmps208
 go_wp2_with (go_at_call 218;refine (compare_any key key' _).mono ?_;rintro e w2 ⟨rfl,rfl⟩)
 go_ret
 exact⟨rfl,rfl⟩
theorem ltOf_key (x y:PC):ltOf PC.cf x y=ltB x.key y.key:=by
 unfold ltOf PC.cf K8
 by_cases h1:ltB x.key y.key=true
 ·rw [if_pos h1,h1];rfl
 ·rw [if_neg h1]
  have h1':ltB x.key y.key=false:=by simpa using h1
  rw [h1']
  split <;> rfl
theorem swo_keys:Sort.SWO (ltOf PC.cf):=by
 have e:=ltOf_key
 refine⟨fun x=>?_,fun x y z h1 h2=>?_,fun x y z h1 h2=>?_⟩
 ·rw [e];unfold ltB;simp
 ·rw [e] at h1 h2 ⊢
  unfold ltB at *
  rw [decide_eq_true_iff] at *
  exact List.lt_trans h1 h2
 ·rw [e] at h1 h2 ⊢
  unfold ltB at *
  rw [decide_eq_false_iff_not] at *
  rw [List.not_lt] at *
  exact List.le_trans h2 h1
theorem agg_pair (w:World):(isAgg 132).run Tryz.prog w = .ok true w:=isAgg132 w
theorem size_pair (w:World):(Go.sizeOf 132).run Tryz.prog w = .ok 6 w:=sizeOf132 w
theorem enter_byKey:∀ (args:Array Value) (w:World),(callFunc 208 args).run Tryz.prog w = .ok (.enter 208 args) w:=enters_of func208 (by kernel_rfl) rfl
theorem enc_get (ds:List PC) (t:Nat) (h:t < ds.length * 6):(ds.flatMap PC.enc)[t]? = some (((ds[t / 6]'(by omega)).enc)[t % 6]!):=by
 have h1:ds.flatMap PC.enc=(ds.map PC.enc).flatten:=by simp [List.flatMap]
 have h2:=ku (size:=6) (ds.map PC.enc) (t / 6) (t % 6) (by intro c hc;obtain⟨x,_,rfl⟩:=List.mem_map.1 hc;rfl) (by simp;omega) (by omega)
 have e:t / 6 * 6 + t % 6=t:=by omega
 rw [e] at h2
 rw [h1,h2,List.getElem_map]
 have hl:t % 6 < (ds[t / 6]'(by omega)).enc.length:=by rw [PC.enc_len];omega
 rw [List.getElem?_eq_getElem hl]
 congr 1
 exact (getElem!_pos (ds[t / 6]'(by omega)).enc (t % 6) hl).symm
theorem ZV (ds:List PC):(ds.flatMap PC.enc).length=ds.length * 6:=by
 induction ds with
 | nil=>rfl
 | cons x ds ih=>rw [List.flatMap_cons,List.length_append,ih,PC.enc_len,List.length_cons];omega
theorem JJ {w:World}{B g n cap:Nat}{ms:List PC}(hrow:w.ownsRow B 132 6 (.slice (some ⟨g,0,none⟩) n cap) n (ms.flatMap PC.enc)) (hn:ms.length=n) (h63:n≤1000000) :
  Calls Tryz.prog 207 #[.slice (some ⟨g,0,none⟩) n cap,.func (.func 208) #[] #[]] w fun e w'=>
   e = .returned (.tuple #[])∧∃ ds:List PC,ds.Perm ms∧ds.Pairwise (fun x y=>ltB y.key x.key=false)∧w'.ownsRow B 132 6 (.slice (some ⟨g,0,none⟩) n cap) n (ds.flatMap PC.enc)∧zb [g] w w':=by
 subst hn
 obtain⟨hl,hr⟩:=hrow
 obtain⟨cur,hb,hh,hc,hm,hs,ht⟩:∃ cur,B≤g∧w.heap[g]? = some (.cells cur 132 (0,0))∧ms.length≤cap∧cap≤maxLen∧cur.size=cap * 6∧cur.toList.take (ms.length * 6)=ms.flatMap PC.enc:=by
  rcases hr with ⟨h,_⟩ | ⟨g',cap',cur,hv,r1,r2,r3,r4,r5,r6⟩
  ·cases h
  ·simp only [Value.slice.injEq,Option.some.injEq,Addr.mk.injEq,and_true,true_and] at hv
   obtain⟨rfl,rfl⟩:=hv
   exact⟨cur,r1,r2,r3,r4,r5,r6⟩
 have hmc:ms.length * 6≤cap * 6:=Nat.mul_le_mul_right 6 hc
 have hH:HoldsK PC.enc 6 w g 0 ms.toArray:=by
  intro j hj
  rw [size_flatK] at hj
  have hj':j < ms.length * 6:=by simpa using hj
  rw [get_flatK _ _ _ _ hj,Nat.zero_add]
  have h1:cur[j]? = some ((ms[j / 6]'(by omega)).enc[j % 6]!):=by
   rw [← enc_get ms j hj',← ht,List.getElem?_take,if_pos hj',Array.getElem?_toList]
  refine⟨?_,zh hh⟩
  rw [za hh h1]
  have h2:j / 6 < ms.toArray.size:=by simp;omega
  rw [getElem!_pos ms.toArray (j / 6) h2]
  simp
 have hcmp:CmpLays Tryz.prog 208 #[] PC.enc 6 PC.cf g 0 ms.toArray.size w:=by
  intro m os dk _ x y
  exact (byKey_any x y _).mono fun e w' ⟨h1,h2⟩=>⟨h1,0,_,h2⟩
 refine (AnyQ.slices_SortFunc Tryz.shSort 6 agg_pair size_pair PC.enc PC.enc_len PC.enc_one PC.cf swo_keys 208 #[] g 0 cap ms.toArray w enter_byKey hcmp hH (lt_of_block hh) (by simp;omega)).mono ?_
 rintro e w' ⟨rfl,d',m,os,hp,hsrt,rfl⟩
 obtain⟨p1,_,p3⟩:=hp
 have hsz:d'.size=ms.length:=by simpa using p1
 obtain⟨q1,cur',q2,q3,q4⟩:=sort_world PC.enc 6 hh m d' os (by rw [hsz,hs];exact hmc)
 have hperm:d'.toList.Perm ms:=by
  have h1:(d'.extract 0 ms.toArray.size)=d':=by rw [← p1];exact Array.extract_size
  have h2:(ms.toArray.extract 0 ms.toArray.size)=ms.toArray:=Array.extract_size
  rw [h1,h2] at p3
  simpa using p3
 refine⟨rfl,d'.toList,hperm,?_,⟨?_,.inr ⟨g,cap,cur',rfl,hb,q2,hc,hm,by rw [q3];exact hs,?_⟩⟩,q1⟩
 ·rw [List.pairwise_iff_getElem]
  intro i j hi hj hij
  have hi':i < d'.size:=by simpa using hi
  have hj':j < d'.size:=by simpa using hj
  have h1:=hsrt i j (Nat.zero_le _) hij (by rw [← p1];exact hj')
  rw [getElem!_pos d' i hi',getElem!_pos d' j hj'] at h1
  have h2:ltOf PC.cf d'[j] d'[i]=ltB d'[j].key d'[i].key:=ltOf_key _ _
  rw [h2] at h1
  simpa using h1
 ·rw [ZV,Array.length_toList,hsz]
 ·apply List.ext_getElem?
  intro t
  rw [List.getElem?_take]
  by_cases h1:t < ms.length * 6
  ·rw [if_pos h1,Array.getElem?_toList,q4 t (by omega),if_pos (by rw [hsz];exact h1),enc_get d'.toList t (by rw [Array.length_toList,hsz];exact h1)]
   have h2:t / 6 < d'.size:=by omega
   rw [getElem!_pos d' (t / 6) h2]
   simp
  ·rw [if_neg h1,List.getElem?_eq_none (by rw [ZV,Array.length_toList,hsz];omega)]
theorem zah {w:World}{base e size n o g:Nat}{v:Value}{xs c:List Value}(h:w.ownsRow base e size v n xs) (hv:v.ownBlock=some g) (ho:o + c.length≤n * size) :
  (∃ ys,(w.setCells g o c).ownsRow base e size v n ys∧ys.length=xs.length∧∀ j,ys[j]? = if o≤j∧j < o + c.length then c[j - o]? else xs[j]?)∧w.there g o c.length∧zb [g] w (w.setCells g o c):=by
 obtain⟨h1,h2⟩:=h
 rcases h2 with ⟨rfl,_⟩ | ⟨g',cap,cur,rfl,hb,hh,hcap,hm,hs,ht⟩
 ·simp [Value.ownBlock] at hv
 ·simp [Value.ownBlock] at hv
  subst hv
  have hnc:n * size≤cap * size:=Nat.mul_le_mul_right size hcap
  obtain⟨cur',q1,q2,q3⟩:=xx g' c o w cur hh
  have hget:∀ j,(cur'.toList.take (n * size))[j]? = if o≤j∧j < o + c.length then c[j - o]? else xs[j]?:=by
   intro j
   rw [List.getElem?_take]
   by_cases hj:j < n * size
   ·rw [if_pos hj,Array.getElem?_toList,q3 j (by omega)]
    by_cases q:o≤j∧j < o + c.length
    ·rw [if_pos q,if_pos q]
    ·rw [if_neg q,if_neg q,← ht,List.getElem?_take,if_pos hj,Array.getElem?_toList]
   ·rw [if_neg hj,if_neg (by omega),List.getElem?_eq_none (by omega)]
  have hlen:(cur'.toList.take (n * size)).length=n * size:=by rw [List.length_take,Array.length_toList,q2,hs];omega
  refine⟨⟨cur'.toList.take (n * size),⟨hlen,.inr ⟨g',cap,cur',rfl,hb,q1,hcap,hm,by rw [q2];exact hs,rfl⟩⟩,by rw [hlen,h1],hget⟩,?_,z7 _ _ _ _⟩
  intro j hj
  have hl:o + j < cur.size:=by omega
  have hcell:w.cell? ⟨g',o + j,none⟩=some cur[o + j]:=za hh (by simp [hl])
  exact⟨by rw [hcell];rfl,zh hh⟩
theorem take_set {α β:Type}(f:α→β) (g:α→β) (l:List α) (k:Nat) (h:k < l.length):((l.take k).map f ++ (l.drop k).map g).set k (f l[k])=(l.take (k + 1)).map f ++ (l.drop (k + 1)).map g:=by
 rw [xw f l k h,List.drop_eq_getElem_cons h,List.map_cons,List.set_append]
 have e:((l.take k).map f).length=k:=by simp;omega
 rw [if_neg (by omega),e,Nat.sub_self,List.set_cons_zero,List.append_assoc]
 rfl
theorem zal {α β:Type}(f:α→β) (g:α→β) (l:List α) (k:Nat) (h:k < l.length):((l.take k).map f ++ (l.drop k).map g)[k]? = some (g l[k]):=by
 have e:((l.take k).map f).length=k:=by simp;omega
 rw [List.getElem?_append_right (by omega),e,Nat.sub_self,List.drop_eq_getElem_cons h]
 rfl
theorem right_nodup {n:Nat}{v:VS (V n)}(h:zo (n + 1) v=true):(v.m.map (fun p=>p.1)).Nodup:=by
 rcases kK (kM h) with q | q | q | q | q | q
 ·rw [q.2.2.2.2];exact List.nodup_nil
 ·rw [q.2.2.2.2];exact List.nodup_nil
 ·rw [q.2.2.2.2];exact List.nodup_nil
 ·rw [q.2.2.2.2];exact List.nodup_nil
 ·rw [q.2.2.2];exact List.nodup_nil
 ·have:=q.2.2.2.2
  unfold yY at this
  rw [Bool.and_eq_true,decide_eq_true_iff] at this
  exact this.2
theorem pcs_of {n:Nat}{S:Nat→Prop}{w:World}:∀ {mcs:List (ByteArray × List Value)}{ms:List (ByteArray × V n)},zI (jY (Rep n S w)) mcs ms→∃ ds:List PC,mcs=ds.map (fun x=>(x.key,x.cs))∧zX mcs=ds.flatMap PC.enc:=by
 intro mcs
 induction mcs with
 | nil=>intro ms _;exact⟨[],rfl,rfl⟩
 | cons p mcs ih=>
  intro ms h
  match ms,h with
  | [],h=>exact absurd h.1 (by simp)
  | q :: ms,h=>
   obtain⟨ds,h1,h2⟩:=ih (ms:=ms) ⟨by simpa using h.1,fun j a b ha hb=>h.2 (j + 1) a b (by simpa using ha) (by simpa using hb)⟩
   have hr:=(h.2 0 p q rfl rfl).2
   obtain⟨key,cs⟩:=p
   obtain⟨k,m,s,a,b,e⟩:=hr.five
   simp only at e
   subst e
   obtain⟨p1,i,c,q1,j,d,rfl,rfl⟩:=hr.sl
   refine⟨⟨key,k,m,s,p1,i,c,q1,j,d⟩:: ds,by rw [List.map_cons,h1];rfl,?_⟩
   rw [List.flatMap_cons,← h2]
   rfl
theorem Slc.at6 {w:World}{x:Value}{m:Nat}{ms:List (ByteArray × List Value)}(h:Slc w 6 x m (zX ms)) (h6:∀ c,c ∈ ms.map yJ→c.length=6) {j:Nat}(hj:j < ms.length) {k i:Int}{s:ByteArray}{a b:Value}(e:ms[j].2=[.int .i64 k,.int .i64 i,.string s,a,b]) :
  ∃ g o cap,x = .slice (some ⟨g,o,none⟩) m cap∧w.cell? ⟨g,o + j * 6,none⟩=some (.string ms[j].1)∧w.cell? ⟨g,o + j * 6 + 1,none⟩=some (.int .i64 k)∧w.cell? ⟨g,o + j * 6 + 2,none⟩=some (.int .i64 i)∧w.cell? ⟨g,o + j * 6 + 3,none⟩=some (.string s)∧w.cell? ⟨g,o + j * 6 + 4,none⟩=some a∧w.cell? ⟨g,o + j * 6 + 5,none⟩=some b:=by
 rw [qx] at h
 have hl:=vB (ms.map yJ) h6
 rw [List.length_map] at hl
 have hm:=h.1
 rcases h.2 with ⟨_,h0⟩ | ⟨h0,_⟩ | ⟨g,o,cap,hsv,_,_,hrow⟩
 ·omega
 ·omega
 have hc:∀ i,i < 6→(ms.map yJ).flatten[j * 6 + i]? = (yJ ms[j])[i]?:=fun i hi=>by
  rw [ku (ms.map yJ) j i h6 (by simpa using hj) hi,List.getElem_map]
 have e2:yJ ms[j]=[.string ms[j].1,.int .i64 k,.int .i64 i,.string s,a,b]:=by
  show Value.string ms[j].1 :: ms[j].2=_
  rw [e]
 rw [e2] at hc
 refine⟨g,o,cap,hsv,?_,?_,?_,?_,?_,?_⟩
 ·exact hrow.cells (j * 6 + 0) _ (hc 0 (by decide))
 all_goals rw [Nat.add_assoc]
 ·exact hrow.cells (j * 6 + 1) _ (hc 1 (by decide))
 ·exact hrow.cells (j * 6 + 2) _ (hc 2 (by decide))
 ·exact hrow.cells (j * 6 + 3) _ (hc 3 (by decide))
 ·exact hrow.cells (j * 6 + 4) _ (hc 4 (by decide))
 ·exact hrow.cells (j * 6 + 5) _ (hc 5 (by decide))
theorem pair_set {ms:List (ByteArray × List Value)}(h6:∀ c,c ∈ ms.map yJ→c.length=6) {k:Nat}(hk:k < ms.length) {c ys:List Value}(hc:c.length=5)
  (hy:∀ j,ys[j]? = if k * 6 + 1≤j∧j < k * 6 + 1 + c.length then c[j - (k * 6 + 1)]? else (zX ms)[j]?):ys=zX (ms.set k (ms[k].1,c)):=by
 apply List.ext_getElem?
 intro j
 rw [hy j,qx,qx,List.map_set,flat_set (size:=6) (ms.map yJ) k (yJ (ms[k].1,c)) h6 (by simp [yJ,hc]),List.length_map,hc]
 by_cases q:k * 6 + 1≤j∧j < k * 6 + 1 + 5
 ·rw [if_pos q,if_pos ⟨hk,by omega,by omega⟩]
  show _=(Value.string ms[k].1 :: c)[j - k * 6]?
  rw [show j - k * 6=(j - (k * 6 + 1)) + 1 by omega,List.getElem?_cons_succ]
 ·rw [if_neg q]
  by_cases q2:j=k * 6
  ·subst q2
   rw [if_pos ⟨hk,by omega,by omega⟩,Nat.sub_self]
   have:=ku (size:=6) (ms.map yJ) k 0 h6 (by simpa using hk) (by decide)
   rw [Nat.add_zero] at this
   rw [this,List.getElem_map]
   rfl
  ·rw [if_neg (by omega)]
end Go.Proofs.YtibnfbglanpoiaaGreatDoor

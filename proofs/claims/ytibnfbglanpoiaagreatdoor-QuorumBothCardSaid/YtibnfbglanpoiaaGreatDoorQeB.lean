/- Parts of one proof, merged: XV XVL XVS XVP XVU. -/
import Derived.Test.YtibnfbglanpoiaaGreatDoorQeA
import Derived.Lib.ValidU
import Derived.Lib.ItoaLen
import Derived.Lib.SpaceU
import Derived.Lib.DecodeN
set_option linter.all false
set_option maxHeartbeats 12800000
set_option maxRecDepth 10000
namespace Go.Proofs.YtibnfbglanpoiaaGreatDoor
structure VS (α:Type) where
 kind:Int
 num:Int
 s:ByteArray
 l:List α
 m:List (ByteArray×α)
def V:Nat→Type
 | 0=>Empty
 | n+1=>VS (V n)
namespace VS
variable {α β : Type}
def kids (v:VS α):List α:=v.l++v.m.map (fun p=>p.2)
def map (f:α→β) (v:VS α):VS β:=⟨v.kind,v.num,v.s,v.l.map f,v.m.map (fun p=>(p.1,f p.2))⟩
theorem kids_map (f:α→β) (v:VS α):(v.map f).kids=v.kids.map f:=by simp [kids,map,Function.comp_def]
def keyBytes (v:VS α):Nat:=(v.m.map (fun p=>p.1.size)).sum
end VS
def qU:List Nat→Nat
 | []=>0
 | x::l=>max x (qU l)
theorem bP {l:List Nat}{b:Nat}:qU l≤b↔∀ x,x∈l→x≤b:=by
 induction l with
 | nil=>simp [qU]
 | cons x l ih=>
  simp only [qU,Nat.max_le,ih,List.mem_cons,forall_eq_or_imp]
theorem maxL_app (a b:List Nat):qU (a++b)=max (qU a) (qU b):=by
 induction a with
 | nil=>simp [qU]
 | cons x a ih=>simp only [List.cons_append,qU,ih];omega
theorem le_maxL {l:List Nat}{x:Nat}(h:x∈l):x≤qU l:=bP.1 (Nat.le_refl _) x h
def zE:(n:Nat)→V n→Nat
 | 0,_=>0
 | n+1,(v:VS (V n))=>1+qU (v.kids.map (zE n))
def zw:(n:Nat)→V n→Nat
 | 0,_=>0
 | n+1,(v:VS (V n))=>1+(v.kids.map (zw n)).sum
def yl:(n:Nat)→V n→Nat
 | 0,_=>0
 | n+1,(v:VS (V n))=>v.s.size+v.keyBytes+(v.kids.map (yl n)).sum
theorem YV {l:List Nat}{x:Nat}(h:x∈l):x≤l.sum:=by
 induction l with
 | nil=>cases h
 | cons y l ih=>
  rw [List.sum_cons]
  rcases List.mem_cons.1 h with rfl | h
  ·omega
  ·have:=ih h;omega
theorem countV_kid {n:Nat}{v:VS (V n)}{x:V n}(h:x∈v.kids):zw n x<zw (n+1) v:=by
 have:=YV (List.mem_map.2 ⟨x,h,rfl⟩:zw n x∈v.kids.map (zw n))
 show _<1+_
 omega
theorem bytesV_kid {n:Nat}{v:VS (V n)}{x:V n}(h:x∈v.kids):yl n x≤yl (n+1) v:=by
 have:=YV (List.mem_map.2 ⟨x,h,rfl⟩:yl n x∈v.kids.map (yl n))
 show _≤v.s.size+v.keyBytes+_
 omega
theorem depthV_kid {n:Nat}{v:VS (V n)}{x:V n}(h:x∈v.kids):zE n x<zE (n+1) v:=by
 have:=le_maxL (List.mem_map.2 ⟨x,h,rfl⟩:zE n x∈v.kids.map (zE n))
 show _<1+_
 omega
theorem countV_pos {n:Nat}{v:V n}:n=0∨1≤zw n v:=by
 cases n with
 | zero=>exact .inl rfl
 | succ n=>exact .inr (by show 1≤1+_;omega)
theorem Z9 {α:Type}(f:α→Nat):∀ (l:List α),(∀ x,x∈l→1≤f x)→l.length≤(l.map f).sum
 | [],_=>Nat.le_refl _
 | x::l,h=>by
  have:=Z9 f l (fun y hy=>h y (List.mem_cons_of_mem _ hy))
  have:=h x (List.mem_cons_self ..)
  simp only [List.map_cons,List.sum_cons,List.length_cons]
  omega
theorem kids_few {n:Nat}(v:VS (V n)):v.l.length+v.m.length<zw (n+1) v:=by
 have h:v.kids.length≤(v.kids.map (zw n)).sum:=Z9 _ _ (fun x _=>by
  rcases countV_pos (v:=x) with h | h
  ·subst h;exact nomatch x
  ·exact h)
 have e:v.kids.length=v.l.length+v.m.length:=by simp [VS.kids]
 show _<1+_
 omega
theorem kZ {n:Nat}{v:VS (V n)}{x:V n}(h:x∈v.l):x∈v.kids:=List.mem_append_left _ h
theorem k9 {n:Nat}{v:VS (V n)}{p:ByteArray×V n}(h:p∈v.m):p.2∈v.kids:=List.mem_append_right _ (List.mem_map.2 ⟨p,h,rfl⟩)
theorem key_le {n:Nat}{v:VS (V n)}{p:ByteArray×V n}(h:p∈v.m):p.1.size≤yl (n+1) v:=by
 have:=YV (List.mem_map.2 ⟨p,h,rfl⟩:p.1.size∈v.m.map (fun p=>p.1.size))
 show _≤v.s.size+v.keyBytes+_
 unfold VS.keyBytes
 omega
def yA (n:Nat) (v:V n):Prop:=zw n v≤20000∧yl n v≤400000
theorem yA.kid {n:Nat}{v:VS (V n)}(h:yA (n+1) v) {x:V n}(hx:x∈v.kids):yA n x:=
 ⟨Nat.le_trans (Nat.le_of_lt (countV_kid hx)) h.1,Nat.le_trans (bytesV_kid hx) h.2⟩
def up:(n:Nat)→V n→V (n+1)
 | 0,v=>nomatch v
 | n+1,(v:VS (V n))=>v.map (up n)
def goL {α:Type}(f:α→Nat):Nat→List α→Nat
 | a,[]=>a
 | a,x::l=>if a≤6000 then goL f (a+f x) l else a
theorem goL_stop {α:Type}(f:α→Nat) {a:Nat}(h:6000<a) (l:List α):goL f a l=a:=by
 cases l with
 | nil=>rfl
 | cons x l=>unfold goL;rw [if_neg Ws]
theorem goL_ge {α:Type}(f:α→Nat):∀ (l:List α) (a:Nat),a≤goL f a l
 | [],_=>Nat.le_refl _
 | x::l,a=>by
  unfold goL
  split
  ·have:=goL_ge f l (a+f x);omega
  ·exact Nat.le_refl _
theorem goL_few {α:Type}(f:α→Nat):∀ (l:List α) (a:Nat),goL f a l≤6000→goL f a l=a+(l.map f).sum
 | [],a,_=>by simp [goL]
 | x::l,a,h=>by
  have ha:a≤6000:=Nat.le_trans (goL_ge f (x::l) a) h
  unfold goL at h ⊢
  rw [if_pos ha] at h ⊢
  rw [goL_few f l _ h]
  simp;omega
theorem goL_le {α:Type}(f:α→Nat) {B:Nat}:∀ (l:List α) (a:Nat),(∀ x,x∈l→f x≤B)→a≤6000+B→goL f a l≤6000+B
 | [],_,_,h=>h
 | x::l,a,hf,h=>by
  unfold goL
  split
  ·exact goL_le f l _ (fun y hy=>hf y (List.mem_cons_of_mem _ hy)) (by have:=hf x (List.mem_cons_self ..);omega)
  ·exact h
def ki {α:Type}(f:α→Nat) (p:ByteArray×α):Nat:=1+p.1.size/10+f p.2
def zG:(n:Nat)→Nat→V n→Nat
 | 0,_,_=>0
 | n+1,d,(v:VS (V n))=>if 20<d∨3000<v.l.length+v.m.length then 10000 else goL (ki (zG n (d+1))) (goL (zG n (d+1)) (1+v.s.size/10) v.l) v.m
theorem jb {α:Type}{f g:α→Nat}:∀ (l:List α),(∀ x,x∈l→f x≤g x)→(l.map f).sum≤(l.map g).sum
 | [],_=>Nat.le_refl _
 | x::l,h=>by
  have:=jb l (fun y hy=>h y (List.mem_cons_of_mem _ hy))
  have:=h x (List.mem_cons_self ..)
  simp only [List.map_cons,List.sum_cons]
  omega
theorem Qn {α:Type}(c:Nat) (f:α→Nat):∀ (l:List α),(l.map (fun x=>c*f x)).sum=c*(l.map f).sum
 | []=>rfl
 | x::l=>by
  have:=Qn c f l
  simp only [List.map_cons,List.sum_cons,this,Nat.mul_add]
theorem Ki {α:Type}(f g:α→Nat):∀ (l:List α),(l.map (fun x=>f x+g x)).sum=(l.map f).sum+(l.map g).sum
 | []=>rfl
 | x::l=>by
  have:=Ki f g l
  simp only [List.map_cons,List.sum_cons,this]
  omega
theorem Q3 {n d:Nat}{v:VS (V n)}(h:zG (n+1) d v≤6000) :
  d≤20∧v.l.length+v.m.length≤3000∧zG (n+1) d v=1+v.s.size/10+(v.l.map (zG n (d+1))).sum+(v.m.map (ki (zG n (d+1)))).sum:=by
 have e:zG (n+1) d v=if 20<d∨3000<v.l.length+v.m.length then 10000 else goL (ki (zG n (d+1))) (goL (zG n (d+1)) (1+v.s.size/10) v.l) v.m:=rfl
 rw [e] at h ⊢
 split at h
 ·omega
 ·rename_i hc
  rw [if_neg hc]
  have h1:=goL_few _ _ _ h
  have h2:goL (zG n (d+1)) (1+v.s.size/10) v.l≤6000:=Nat.le_trans (goL_ge _ _ _) h
  rw [h1,goL_few _ _ _ h2]
  exact⟨Ws,Ws,rfl⟩
theorem large_kid {n d:Nat}{v:VS (V n)}(h:zG (n+1) d v≤6000) {x:V n}(hx:x∈v.kids):zG n (d+1) x≤6000:=by
 obtain⟨_,_,e⟩:=Q3 h
 rcases List.mem_append.1 hx with hx | hx
 ·have:=YV (List.mem_map.2 ⟨x,hx,rfl⟩:zG n (d+1) x∈v.l.map (zG n (d+1)))
  omega
 ·obtain⟨p,hp,rfl⟩:=List.mem_map.1 hx
  have:=YV (List.mem_map.2 ⟨p,hp,rfl⟩:ki (zG n (d+1)) p∈v.m.map (ki (zG n (d+1))))
  have e2:ki (zG n (d+1)) p=1+p.1.size/10+zG n (d+1) p.2:=rfl
  omega
theorem j8 {n:Nat}(f:V n→Nat) (v:VS (V n)):(v.kids.map f).sum=(v.l.map f).sum+(v.m.map (fun p=>f p.2)).sum:=by
 simp [VS.kids,Function.comp_def]
theorem ZH:∀ (n d:Nat) (v:V n),zG n d v≤6000→zw n v≤zG n d v∧yl n v≤10*zG n d v∧(n=0∨d+zE n v≤21)
 | 0,_,v,_=>nomatch v
 | n+1,d,(v:VS (V n)),h=>by
  obtain⟨h1,h2,e⟩:=Q3 h
  have ih:=fun x (hx:x∈v.kids)=>ZH n (d+1) x (large_kid h hx)
  have c1:(v.l.map (zw n)).sum≤(v.l.map (zG n (d+1))).sum:=jb _ fun x hx=>(ih x (kZ hx)).1
  have c2:(v.m.map (fun p=>zw n p.2)).sum≤(v.m.map (ki (zG n (d+1)))).sum:=jb _ fun p hp=>by
   have:=(ih p.2 (k9 hp)).1
   unfold ki;omega
  have b1:(v.l.map (yl n)).sum≤10*(v.l.map (zG n (d+1))).sum:=by
   rw [← Qn]
   exact jb _ fun x hx=>(ih x (kZ hx)).2.1
  have b2:(v.m.map (fun p=>p.1.size+yl n p.2)).sum≤10*(v.m.map (ki (zG n (d+1)))).sum:=by
   rw [← Qn]
   exact jb _ fun p hp=>by
    have:=(ih p.2 (k9 hp)).2.1
    unfold ki;omega
  rw [Ki] at b2
  have ec:zw (n+1) v=1+((v.l.map (zw n)).sum+(v.m.map (fun p=>zw n p.2)).sum):=by rw [← j8];rfl
  have eb:yl (n+1) v=v.s.size+(v.m.map (fun p=>p.1.size)).sum+((v.l.map (yl n)).sum+(v.m.map (fun p=>yl n p.2)).sum):=by rw [← j8];rfl
  refine⟨Ws,Ws,.inr ?_⟩
  have hd:qU (v.kids.map (zE n))≤20-d:=by
   refine bP.2 fun x hx=>?_
   obtain⟨y,hy,rfl⟩:=List.mem_map.1 hx
   rcases (ih y hy).2.2 with h3 | h3
   ·subst h3;exact nomatch y
   ·omega
  show d+(1+qU (v.kids.map (zE n)))≤21
  omega
theorem small_of {n d:Nat}{v:V n}(h:zG n d v≤6000):yA n v:=by
 obtain⟨h1,h2,_⟩:=ZH n d v h
 exact⟨Ws,Ws⟩
def qV (B:Nat):(n:Nat)→V n→Prop
 | 0,_=>True
 | n+1,(v:VS (V n))=>(v.s.size≤B∧v.l.length≤B∧v.m.length≤B)∧(∀ p,p∈v.m→p.1.size≤B)∧∀ x,x∈v.kids→qV B n x
theorem large_le {B:Nat}:∀ (n d:Nat) (v:V n),qV B n v→zG n d v≤(22-d)*(20000+2*B)+20000
 | 0,_,v,_=>nomatch v
 | n+1,d,(v:VS (V n)),h=>by
  obtain⟨⟨h1,_,_⟩,h2,h3⟩:=h
  have e:zG (n+1) d v=if 20<d∨3000<v.l.length+v.m.length then 10000 else goL (ki (zG n (d+1))) (goL (zG n (d+1)) (1+v.s.size/10) v.l) v.m:=rfl
  rw [e]
  split
  ·omega
  ·rename_i hc
   have hd:d≤20:=Ws
   have ih:=fun x (hx:x∈v.kids)=>large_le (B:=B) n (d+1) x (h3 x hx)
   have hm:(22-d)*(20000+2*B)=(22-(d+1))*(20000+2*B)+(20000+2*B):=by
    rw [show 22-d=(22-(d+1))+1 by omega,Nat.add_mul,Nat.one_mul]
   rw [hm]
   revert ih
   generalize (22-(d+1))*(20000+2*B)=Z
   intro ih
   have g1:goL (zG n (d+1)) (1+v.s.size/10) v.l≤6000+(Z+20000+B):=goL_le _ _ _ (fun x hx=>by have:=ih x (kZ hx);omega) Ws
   have g2:goL (ki (zG n (d+1))) (goL (zG n (d+1)) (1+v.s.size/10) v.l) v.m≤6000+(Z+20001+B):=goL_le _ _ _ (fun p hp=>by
    have:=ih p.2 (k9 hp)
    have:=h2 p hp
    unfold ki;omega) Ws
   omega
def zQ (s:ByteArray):Bool:=Lib.validD s.data.toList
def bi (s:ByteArray):Bool:=decide (s=⟨#[]⟩)
def xA {α:Type}(m:List (ByteArray×α)):Bool:=m.all (fun p=>zQ p.1)&&decide ((m.map (fun p=>p.1)).Nodup)
def zx {α:Type}(v:VS α):Bool:=
 if v.kind=1 then decide (v.num=0)&&bi v.s&&v.l.isEmpty&&v.m.isEmpty
 else if v.kind=2 then decide (v.num=0∨v.num=1)&&bi v.s&&v.l.isEmpty&&v.m.isEmpty
 else if v.kind=3 then decide (-9007199254740991≤v.num∧v.num≤9007199254740991)&&bi v.s&&v.l.isEmpty&&v.m.isEmpty
 else if v.kind=4 then zQ v.s&&decide (v.num=0)&&v.l.isEmpty&&v.m.isEmpty
 else if v.kind=5 then decide (v.num=0)&&bi v.s&&v.m.isEmpty
 else if v.kind=6 then xA v.m&&decide (v.num=0)&&bi v.s&&v.l.isEmpty
 else false
def zr:(n:Nat)→V n→Bool
 | 0,_=>true
 | n+1,(v:VS (V n))=>zx v&&v.kids.all (zr n)
def yQ (n:Nat) (v:V n):Int:=if 12<zE n v then 41 else if 4096<zw n v then 42 else if zr n v then 0 else 40
theorem kH {n:Nat}{v:V n}:yQ n v=0↔zE n v≤12∧zw n v≤4096∧zr n v=true:=by
 unfold yQ
 split
 ·constructor
  ·intro h;cases h
  ·intro h;omega
 ·split
  ·constructor
   ·intro h;cases h
   ·intro h;omega
  ·split
   ·rename_i h1 h2 h3;exact⟨fun _=>⟨Ws,Ws,h3⟩,fun _=>rfl⟩
   ·rename_i h1 h2 h3;exact⟨(fun h=>by cases h),(fun h=>absurd h.2.2 h3)⟩
theorem qR {n:Nat}{v:VS (V n)}(h:zr (n+1) v=true) {x:V n}(hx:x∈v.kids):zr n x=true:=by
 have e:zr (n+1) v=(zx v&&v.kids.all (zr n)):=rfl
 rw [e,Bool.and_eq_true] at h
 exact List.all_eq_true.1 h.2 x hx
theorem jf {n:Nat}{v:VS (V n)}(h:zr (n+1) v=true):zx v=true:=by
 have e:zr (n+1) v=(zx v&&v.kids.all (zr n)):=rfl
 rw [e,Bool.and_eq_true] at h
 exact h.1
theorem jh {α:Type}{v:VS α}(h:zx v=true) :
  (v.kind=1∧v.num=0∧v.s=⟨#[]⟩∧v.l=[]∧v.m=[])∨(v.kind=2∧(v.num=0∨v.num=1)∧v.s=⟨#[]⟩∧v.l=[]∧v.m=[]) ∨
  (v.kind=3∧(-9007199254740991≤v.num∧v.num≤9007199254740991)∧v.s=⟨#[]⟩∧v.l=[]∧v.m=[])∨(v.kind=4∧v.num=0∧zQ v.s=true∧v.l=[]∧v.m=[]) ∨
  (v.kind=5∧v.num=0∧v.s=⟨#[]⟩∧v.m=[])∨(v.kind=6∧v.num=0∧v.s=⟨#[]⟩∧v.l=[]∧xA v.m=true):=by
 unfold zx bi at h
 split at h
 ·rename_i e;simp only [Bool.and_eq_true,decide_eq_true_iff,List.isEmpty_iff] at h;exact .inl ⟨e,h.1.1.1,h.1.1.2,h.1.2,h.2⟩
 split at h
 ·rename_i e;simp only [Bool.and_eq_true,decide_eq_true_iff,List.isEmpty_iff] at h;exact .inr (.inl ⟨e,h.1.1.1,h.1.1.2,h.1.2,h.2⟩)
 split at h
 ·rename_i e;simp only [Bool.and_eq_true,decide_eq_true_iff,List.isEmpty_iff] at h;exact .inr (.inr (.inl ⟨e,h.1.1.1,h.1.1.2,h.1.2,h.2⟩))
 split at h
 ·rename_i e;simp only [Bool.and_eq_true,decide_eq_true_iff,List.isEmpty_iff] at h;exact .inr (.inr (.inr (.inl ⟨e,h.1.1.2,h.1.1.1,h.1.2,h.2⟩)))
 split at h
 ·rename_i e;simp only [Bool.and_eq_true,decide_eq_true_iff,List.isEmpty_iff] at h;exact .inr (.inr (.inr (.inr (.inl ⟨e,h.1.1,h.1.2,h.2⟩))))
 split at h
 ·rename_i e;simp only [Bool.and_eq_true,decide_eq_true_iff,List.isEmpty_iff] at h;exact .inr (.inr (.inr (.inr (.inr ⟨e,h.1.1.2,h.1.2,h.2,h.1.1.1⟩))))
 ·cases h
def leK {α:Type}(a b:ByteArray×α):Bool:=decide (a.1.data.toList≤b.1.data.toList)
def zy:(n:Nat)→V n→V n
 | 0,v=>v
 | n+1,(v:VS (V n))=>(⟨v.kind,v.num,v.s,v.l.map (zy n),(v.m.map (fun p=>(p.1,zy n p.2))).mergeSort leK⟩:VS (V n))
theorem kF {α:Type}(a b c:ByteArray×α) (h1:leK a b=true) (h2:leK b c=true):leK a c=true:=by
 simp only [leK,decide_eq_true_eq] at *
 exact List.le_trans h1 h2
theorem bg {α:Type}(a b:ByteArray×α):(leK a b || leK b a)=true:=by
 simp only [leK,Bool.or_eq_true,decide_eq_true_eq]
 exact List.le_total _ _
theorem ba_eq {x y:ByteArray}(h:x.data.toList=y.data.toList):x=y:=by
 cases x;cases y
 simp only [ByteArray.mk.injEq] at *
 exact Array.toList_inj.1 h
theorem jj {α:Type}{a b:List (ByteArray×α)}(hp:a.Perm b) (ha:a.Pairwise (fun x y=>leK x y=true)) (hb:b.Pairwise (fun x y=>leK x y=true)) (hn:(a.map (fun p=>p.1)).Nodup):a=b:=by
 refine List.Perm.eq_of_pairwise (le:=fun x y=>leK x y=true) (fun x y hx hy h1 h2=>?_) ha hb hp
 simp only [leK,decide_eq_true_eq] at h1 h2
 have e:x.1=y.1:=ba_eq (List.le_antisymm h1 h2)
 have hy':y∈a:=hp.mem_iff.2 hy
 obtain⟨i,hi,rfl⟩:=List.getElem_of_mem hx
 obtain⟨j,hj,rfl⟩:=List.getElem_of_mem hy'
 have hij:i=j:=by
  rcases Nat.lt_trichotomy i j with h | h | h
  ·exact absurd e (by
    have:=(List.pairwise_iff_getElem.1 hn) i j (by simpa using hi) (by simpa using hj) h
    simpa using this)
  ·exact h
  ·exact absurd e.symm (by
    have:=(List.pairwise_iff_getElem.1 hn) j i (by simpa using hj) (by simpa using hi) h
    simpa using this)
 subst hij;rfl
def qy (n:Nat):UInt8:=UInt8.ofNat (if n<10 then 48+n else 87+n)
def yd (c:UInt8):List UInt8:=if c.toNat<32 then [92,117,48,48,qy (c.toNat/16),qy (c.toNat%16)] else if c=34∨c=92 then [92,c] else [c]
def yG (s:List UInt8):List UInt8:=34::(s.flatMap yd++[34])
def qE:List (List UInt8)→List UInt8
 | []=>[]
 | [x]=>x
 | x::y::l=>x++(44::qE (y::l))
def zt:(n:Nat)→V n→List UInt8
 | 0,_=>[]
 | n+1,(v:VS (V n))=>
  if v.kind=1 then [110,117,108,108]
  else if v.kind=2 then (if v.num=1 then [116,114,117,101] else [102,97,108,115,101])
  else if v.kind=3 then Lib.itoa v.num
  else if v.kind=4 then yG v.s.data.toList
  else if v.kind=5 then 91::(qE (v.l.map (zt n))++[93])
  else 123::(qE (v.m.map (fun p=>yG p.1.data.toList++(58::zt n p.2)))++[125])
def qB (n:Nat) (v:V n):List UInt8×Int:=
 if yQ n v≠0 then ([],yQ n v) else if 262144<(zt n (zy n v)).length then ([],3) else (zt n (zy n v),0)
def yc (l:List UInt8):ByteArray:=⟨l.toArray⟩
theorem xZ (l:List UInt8):(yc l).data.toList=l:=by simp [yc]
def isDig (c:UInt8):Bool:=decide (48≤c.toNat)&&decide (c.toNat≤57)
def hexV (c:UInt8):Option Nat:=
 if 48≤c.toNat∧c.toNat≤57 then some (c.toNat-48) else if 97≤c.toNat∧c.toNat≤102 then some (c.toNat-87) else if 65≤c.toNat∧c.toNat≤70 then some (c.toNat-55) else none
def utfB (r:Int):List UInt8:=(Utf8.encode r).data.toList
def xX (r:Nat):List UInt8:=utfB r
def digSum (s:List UInt8):Nat:=s.foldl (fun a c=>10*a+(c.toNat-48)) 0
def leaf {α:Type}(k n:Int) (s:ByteArray):VS α:=⟨k,n,s,[],[]⟩
section
variable {α : Type} (sub : List UInt8 → Nat → Sum Int (α × List UInt8 × Nat))
end
open Go.Lib (decodeN decodeL)
def gb (l:List UInt8) (i:Nat):Nat:=(l.getD i 0).toNat
theorem get_getD (l:List UInt8) (i:Nat):((⟨l.toArray⟩:ByteArray).get! i)=l.getD i 0:=by
 show l.toArray[i]! = _
 rw [List.getD_eq_getElem?_getD,getElem!_def]
 simp only [List.getElem?_toArray]
 cases l[i]? <;> rfl
theorem qM (l:List UInt8):decodeL l=decodeN l.length (gb l 0) (gb l 1) (gb l 2) (gb l 3):=by
 unfold decodeL
 rw [Lib.decode_at]
 have hs:(⟨l.toArray⟩:ByteArray).size=l.length:=by simp [ByteArray.size]
 simp only [hs,Nat.sub_zero,Nat.zero_add,get_getD,gb]
theorem gb_app (l x:List UInt8) (i:Nat) (h:i<l.length):gb (l++x) i=gb l i:=by
 unfold gb
 rw [List.getD_eq_getElem?_getD,List.getD_eq_getElem?_getD,List.getElem?_append_left h]
theorem bZ (l:List UInt8) (i:Nat):gb l i<256:=(l.getD i 0).toNat_lt
theorem Ku {n b0 b1 b2 b3:Nat}(hn:1≤n) (h1:b1<256) (h2:b2<256) (h3:b3<256) (h0:b0<256) (h:¬((decodeN n b0 b1 b2 b3).1=65533∧(decodeN n b0 b1 b2 b3).2=1)) :
  (b0<128∧decodeN n b0 b1 b2 b3=(b0,1)) ∨
  (128≤b0∧b0/32=6∧2≤n∧b1/64=2∧128≤b0%32*64+b1%64∧decodeN n b0 b1 b2 b3=(b0%32*64+b1%64,2)) ∨
  (128≤b0∧b0/16=14∧3≤n∧b1/64=2∧b2/64=2∧2048≤b0%16*4096+b1%64*64+b2%64∧(b0%16*4096+b1%64*64+b2%64<55296∨57344≤b0%16*4096+b1%64*64+b2%64)∧decodeN n b0 b1 b2 b3=(b0%16*4096+b1%64*64+b2%64,3)) ∨
  (128≤b0∧b0/8=30∧4≤n∧b1/64=2∧b2/64=2∧b3/64=2∧65536≤b0%8*262144+b1%64*4096+b2%64*64+b3%64∧b0%8*262144+b1%64*4096+b2%64*64+b3%64≤1114111∧decodeN n b0 b1 b2 b3=(b0%8*262144+b1%64*4096+b2%64*64+b3%64,4)):=by
 unfold decodeN at h ⊢
 by_cases c0:b0<128
 ·rw [if_pos c0];exact .inl ⟨c0,rfl⟩
 rw [if_neg c0] at h ⊢
 by_cases c1:b0/32=6∧(1<n∧b1/64=2)
 ·rw [if_pos c1] at h ⊢
  by_cases d:b0%32*64+b1%64≥128
  ·rw [if_pos d];exact .inr (.inl ⟨Ws,c1.1,Ws,c1.2.2,d,rfl⟩)
  ·rw [if_neg d] at h;exact absurd ⟨rfl,rfl⟩ h
 rw [if_neg c1] at h ⊢
 by_cases c2:b0/16=14∧(1<n∧b1/64=2)∧(2<n∧b2/64=2)
 ·rw [if_pos c2] at h ⊢
  split at h
  ·rename_i d;rw [if_pos d];exact .inr (.inr (.inl ⟨Ws,c2.1,Ws,c2.2.1.2,c2.2.2.2,d.1,Ws,rfl⟩))
  ·exact absurd ⟨rfl,rfl⟩ h
 rw [if_neg c2] at h ⊢
 by_cases c3:b0/8=30∧(1<n∧b1/64=2)∧(2<n∧b2/64=2)∧(3<n∧b3/64=2)
 ·rw [if_pos c3] at h ⊢
  split at h
  ·rename_i d;rw [if_pos d];exact .inr (.inr (.inr ⟨Ws,c3.1,Ws,c3.2.1.2,c3.2.2.1.2,c3.2.2.2.2,d.1,Ws,rfl⟩))
  ·exact absurd ⟨rfl,rfl⟩ h
 rw [if_neg c3] at h
 exact absurd ⟨rfl,rfl⟩ h
theorem decodeN_more {n m b0 b1 b2 b3 c1 c2 c3:Nat}(hn:1≤n) (hm:(decodeN n b0 b1 b2 b3).2≤m) (h1:b1<256) (h2:b2<256) (h3:b3<256) (h0:b0<256) (h:¬((decodeN n b0 b1 b2 b3).1=65533∧(decodeN n b0 b1 b2 b3).2=1))
  (e1:1<(decodeN n b0 b1 b2 b3).2→c1=b1) (e2:2<(decodeN n b0 b1 b2 b3).2→c2=b2) (e3:3<(decodeN n b0 b1 b2 b3).2→c3=b3):decodeN m b0 c1 c2 c3=decodeN n b0 b1 b2 b3:=by
 rcases Ku hn h1 h2 h3 h0 h with ⟨q0,e⟩ | ⟨q0,q1,q2,q3,q4,e⟩ | ⟨q0,q1,q2,q3,q4,q5,q6,e⟩ | ⟨q0,q1,q2,q3,q4,q5,q6,q7,e⟩
 all_goals
  rw [e] at hm e1 e2 e3
  simp only at hm e1 e2 e3
 ·rw [e];unfold decodeN;rw [if_pos q0]
 ·rw [e,e1 Ws]
  unfold decodeN
  rw [if_neg Ws,if_pos ⟨q1,Ws,q3⟩,if_pos q4]
 ·rw [e,e1 Ws,e2 Ws]
  unfold decodeN
  rw [if_neg Ws,if_neg Ws,if_pos ⟨q1,⟨Ws,q3⟩,Ws,q4⟩,if_pos ⟨q5,Ws⟩]
 ·rw [e,e1 Ws,e2 Ws,e3 Ws]
  unfold decodeN
  rw [if_neg Ws,if_neg Ws,if_neg Ws,if_pos ⟨q1,⟨Ws,q3⟩,⟨Ws,q4⟩,Ws,q5⟩,if_pos ⟨q6,Ws⟩]
theorem take_two {l:List UInt8}(h:2≤l.length):l.take 2=[l.getD 0 0,l.getD 1 0]:=by
 match l,h with
 | a::b::t,_=>rfl
theorem JS {l:List UInt8}(h:3≤l.length):l.take 3=[l.getD 0 0,l.getD 1 0,l.getD 2 0]:=by
 match l,h with
 | a::b::c::t,_=>rfl
theorem take_four {l:List UInt8}(h:4≤l.length):l.take 4=[l.getD 0 0,l.getD 1 0,l.getD 2 0,l.getD 3 0]:=by
 match l,h with
 | a::b::c::d::t,_=>rfl
theorem enc_aux (c:Nat):(if c<128 then (⟨#[UInt8.ofNat c]⟩:ByteArray) else if c<2048 then ⟨#[UInt8.ofNat (192+c/64),UInt8.ofNat (128+c%64)]⟩
  else if c<65536 then ⟨#[UInt8.ofNat (224+c/4096),UInt8.ofNat (128+c/64%64),UInt8.ofNat (128+c%64)]⟩
  else ⟨#[UInt8.ofNat (240+c/262144),UInt8.ofNat (128+c/4096%64),UInt8.ofNat (128+c/64%64),UInt8.ofNat (128+c%64)]⟩).data.toList =
  if c<128 then [UInt8.ofNat c] else if c<2048 then [UInt8.ofNat (192+c/64),UInt8.ofNat (128+c%64)]
  else if c<65536 then [UInt8.ofNat (224+c/4096),UInt8.ofNat (128+c/64%64),UInt8.ofNat (128+c%64)]
  else [UInt8.ofNat (240+c/262144),UInt8.ofNat (128+c/4096%64),UInt8.ofNat (128+c/64%64),UInt8.ofNat (128+c%64)]:=by
 by_cases c1:c<128
 ·rw [if_pos c1,if_pos c1]
 rw [if_neg c1,if_neg c1]
 by_cases c2:c<2048
 ·rw [if_pos c2,if_pos c2]
 rw [if_neg c2,if_neg c2]
 by_cases c3:c<65536
 ·rw [if_pos c3,if_pos c3]
 rw [if_neg c3,if_neg c3]
theorem valid_of (c:Nat) (h:c<55296∨(57344≤c∧c≤1114111)):Utf8.valid (c:Int)=true:=by
 unfold Utf8.valid
 rw [Bool.or_eq_true,Bool.and_eq_true,Bool.and_eq_true]
 simp only [decide_eq_true_eq]
 omega
theorem enc_of (r:Int) (h:Utf8.valid r=true):utfB r=if r.toNat<128 then [UInt8.ofNat r.toNat] else if r.toNat<2048 then [UInt8.ofNat (192+r.toNat/64),UInt8.ofNat (128+r.toNat%64)]
  else if r.toNat<65536 then [UInt8.ofNat (224+r.toNat/4096),UInt8.ofNat (128+r.toNat/64%64),UInt8.ofNat (128+r.toNat%64)]
  else [UInt8.ofNat (240+r.toNat/262144),UInt8.ofNat (128+r.toNat/4096%64),UInt8.ofNat (128+r.toNat/64%64),UInt8.ofNat (128+r.toNat%64)]:=by
 unfold utfB Utf8.encode
 rw [if_pos h]
 exact enc_aux _
theorem jc (c:Nat) (h:c<55296∨(57344≤c∧c≤1114111)):xX c =
  if c<128 then [UInt8.ofNat c] else if c<2048 then [UInt8.ofNat (192+c/64),UInt8.ofNat (128+c%64)]
  else if c<65536 then [UInt8.ofNat (224+c/4096),UInt8.ofNat (128+c/64%64),UInt8.ofNat (128+c%64)]
  else [UInt8.ofNat (240+c/262144),UInt8.ofNat (128+c/4096%64),UInt8.ofNat (128+c/64%64),UInt8.ofNat (128+c%64)]:=by
 have e:=enc_of c (valid_of c h)
 rw [Int.toNat_natCast] at e
 exact e
structure Decoded (l:List UInt8) (c n:Nat):Prop where
 eq:decodeL l=(c,n)
 le:n≤l.length
 pos:1≤n
 one:n=1→gb l 0<128∧c=gb l 0
 high:2≤n→∀ b,b∈l.take n→128≤b.toNat
 rune:xX c=l.take n
 valid:c<55296∨(57344≤c∧c≤1114111)
 more:∀ x,decodeL (l.take n++x)=(c,n)
theorem decoded {l:List UInt8}(h0:l≠[]) (h:¬((decodeL l).1=65533∧(decodeL l).2=1)):Decoded l (decodeL l).1 (decodeL l).2:=by
 have hn:1≤l.length:=by cases l with | nil=>exact absurd rfl h0 | cons a t=>simp
 have hmore:1≤(decodeL l).2→(decodeL l).2≤l.length→∀ x,decodeL (l.take (decodeL l).2++x)=decodeL l:=by
  intro g1 g2 x
  have hl:(l.take (decodeL l).2).length=(decodeL l).2:=by rw [List.length_take];omega
  have hb:∀ i,i<(decodeL l).2→gb (l.take (decodeL l).2++x) i=gb l i:=fun i hi=>by
   rw [gb_app _ x i Ws]
   unfold gb
   rw [List.getD_eq_getElem?_getD,List.getD_eq_getElem?_getD,List.getElem?_take_of_lt hi]
  revert hl hb
  generalize e:l.take (decodeL l).2++x=y
  intro hl hb
  have hy:(decodeL l).2≤y.length:=by rw [← e,List.length_append];omega
  rw [qM y,hb 0 Ws]
  rw [qM l] at h hb hy ⊢
  exact decodeN_more hn hy (bZ _ _) (bZ _ _) (bZ _ _) (bZ _ _) h (fun q=>hb 1 q) (fun q=>hb 2 q) (fun q=>hb 3 q)
 have b0:l.getD 0 0=UInt8.ofNat (gb l 0):=(UInt8.ofNat_toNat).symm
 have b1:l.getD 1 0=UInt8.ofNat (gb l 1):=(UInt8.ofNat_toNat).symm
 have b2:l.getD 2 0=UInt8.ofNat (gb l 2):=(UInt8.ofNat_toNat).symm
 have b3:l.getD 3 0=UInt8.ofNat (gb l 3):=(UInt8.ofNat_toNat).symm
 have t0:(l.getD 0 0).toNat=gb l 0:=rfl
 have t1:(l.getD 1 0).toNat=gb l 1:=rfl
 have t2:(l.getD 2 0).toNat=gb l 2:=rfl
 have t3:(l.getD 3 0).toNat=gb l 3:=rfl
 have l0:=bZ l 0
 have l1:=bZ l 1
 have l2:=bZ l 2
 have l3:=bZ l 3
 have h':=h
 rw [qM] at h'
 rcases Ku hn l1 l2 l3 l0 h' with ⟨q0,e⟩ | ⟨q0,q1,q2,q3,q4,e⟩ | ⟨q0,q1,q2,q3,q4,q5,q6,e⟩ | ⟨q0,q1,q2,q3,q4,q5,q6,q7,e⟩
 all_goals
  rw [← qM] at e
  rw [e] at hmore ⊢
  simp only at hmore ⊢
 ·refine⟨e,hn,Nat.le_refl _,fun _=>⟨q0,rfl⟩,fun h=>by omega,?_,Ws,hmore Ws Ws⟩
  rw [jc _ Ws,if_pos q0]
  cases l with
  | nil=>exact absurd rfl h0
  | cons a t=>simp [gb]
 ·refine⟨e,q2,Ws,fun h=>by omega,fun _ b hb=>?_,?_,Ws,hmore Ws Ws⟩
  ·rw [take_two q2] at hb
   simp only [List.mem_cons,List.not_mem_nil,or_false] at hb
   rcases hb with rfl | rfl
   ·rw [t0];omega
   ·rw [t1];omega
  ·rw [jc _ Ws,if_neg Ws,if_pos Ws,take_two q2,b0,b1]
   congr 2 <;> congr 1 <;> omega
 ·refine⟨e,q2,Ws,fun h=>by omega,fun _ b hb=>?_,?_,Ws,hmore Ws Ws⟩
  ·rw [JS q2] at hb
   simp only [List.mem_cons,List.not_mem_nil,or_false] at hb
   rcases hb with rfl | rfl | rfl
   ·rw [t0];omega
   ·rw [t1];omega
   ·rw [t2];omega
  ·rw [jc _ Ws,if_neg Ws,if_neg Ws,if_pos Ws,JS q2,b0,b1,b2]
   congr 1
   ·congr 1;omega
   ·congr 1
    ·congr 1;omega
    ·congr 1;congr 1;omega
 ·refine⟨e,q2,Ws,fun h=>by omega,fun _ b hb=>?_,?_,Ws,hmore Ws Ws⟩
  ·rw [take_four q2] at hb
   simp only [List.mem_cons,List.not_mem_nil,or_false] at hb
   rcases hb with rfl | rfl | rfl | rfl
   ·rw [t0];omega
   ·rw [t1];omega
   ·rw [t2];omega
   ·rw [t3];omega
  ·rw [jc _ Ws,if_neg Ws,if_neg Ws,if_neg Ws,take_four q2,b0,b1,b2,b3]
   congr 1
   ·congr 1;omega
   ·congr 1
    ·congr 1;omega
    ·congr 1
     ·congr 1;omega
     ·congr 1;congr 1;omega
end Go.Proofs.YtibnfbglanpoiaaGreatDoor

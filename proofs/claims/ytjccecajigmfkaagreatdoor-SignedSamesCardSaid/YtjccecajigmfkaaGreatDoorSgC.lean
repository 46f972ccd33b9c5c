/- Parts of one proof, merged: XV XVL XVS XVP XVU XVW XVX XVY. -/
import Derived.Test.YtjccecajigmfkaaGreatDoorSgA
import Derived.Lib.ValidU
import Derived.Lib.ItoaLen
import Derived.Lib.SpaceU
import Derived.Lib.DecodeN
import Derived.Lib.ValidLaws
set_option linter.all false
set_option maxHeartbeats 12800000
set_option maxRecDepth 10000
namespace Go.Proofs.YtjccecajigmfkaaGreatDoor
variable {acc:List UInt8}{b:UInt8}{b0 b1 b2 b3 d f:Nat}{l r:List UInt8}
structure VS (α:Type) where
 kind:Int
 num:Int
 s:ByteArray
 l:List α
 m:List (ByteArray×α)
def V:Nat→Type
 | 0=>Empty
 | n+1=>VS (V n)
namespace VS
variable {α β : Type}
def kids (v:VS α):List α:=v.l++v.m.map (fun p=>p.2)
def map (f:α→β)(v:VS α):VS β:=⟨v.kind,v.num,v.s,v.l.map f,v.m.map (fun p=>(p.1,f p.2))⟩
theorem kids_map (f:α→β)(v:VS α):(v.map f).kids=v.kids.map f:=by simp [kids,map,Function.comp_def]
theorem ext' {v w:VS α}(b:v.kind=w.kind)(h2:v.num=w.num)(h3:v.s=w.s)(d:v.l=w.l)(a:v.m=w.m):v=w:=by
 cases v;cases w;simp only at *;subst b;subst h2;subst h3;subst d;subst a;rfl
def keyBytes (v:VS α):Nat:=(v.m.map (fun p=>p.1.size)).sum
end VS
def qM:List Nat→Nat
 | []=>0
 | x::l=>max x (qM l)
theorem bt {l:List Nat}{b:Nat}:qM l≤b↔∀ x,x∈l→x≤b:=by
 induction l with
 | nil=>simp [qM]
 | cons x l ih=>
  simp only [qM,Nat.max_le,ih,List.mem_cons,forall_eq_or_imp]
theorem zaT (a b:List Nat):qM (a++b)=max (qM a) (qM b):=by
 induction a with
 | nil=>simp [qM]
 | cons x a ih=>simp only [List.cons_append,qM,ih];omega
theorem le_maxL {l:List Nat}{x:Nat}(h:x∈l):x≤qM l:=bt.1 (XA) x h
def zH:(n:Nat)→V n→Nat
 | 0,_=>0
 | n+1,(v:VS (V n))=>1+qM (v.kids.map (zH n))
def zq:(n:Nat)→V n→Nat
 | 0,_=>0
 | n+1,(v:VS (V n))=>1+(v.kids.map (zq n)).sum
def zT:(n:Nat)→V n→Nat
 | 0,_=>0
 | n+1,(v:VS (V n))=>v.s.size+v.keyBytes+(v.kids.map (zT n)).sum
theorem Kc {l:List Nat}{x:Nat}(h:x∈l):x≤l.sum:=by
 induction l with
 | nil=>cases h
 | cons y l ih=>
  rw [List.sum_cons]
  rcases List.mem_cons.1 h with rfl | h
  ·omega
  ·have:=ih h;omega
theorem countV_kid {n:Nat}{v:VS (V n)}{x:V n}(h:x∈v.kids):zq n x<zq (n+1) v:=by
 have:=Kc (List.mem_map.2 ⟨x,h,rfl⟩:zq n x∈v.kids.map (zq n))
 show _<1+_
 omega
theorem bytesV_kid {n:Nat}{v:VS (V n)}{x:V n}(h:x∈v.kids):zT n x≤zT (n+1) v:=by
 have:=Kc (List.mem_map.2 ⟨x,h,rfl⟩:zT n x∈v.kids.map (zT n))
 show _≤v.s.size+v.keyBytes+_
 omega
theorem depthV_kid {n:Nat}{v:VS (V n)}{x:V n}(h:x∈v.kids):zH n x<zH (n+1) v:=by
 have:=le_maxL (List.mem_map.2 ⟨x,h,rfl⟩:zH n x∈v.kids.map (zH n))
 show _<1+_
 omega
theorem QS {n:Nat}{v:V n}:n=0∨1≤zq n v:=by
 cases n with
 | zero=>exact .inl rfl
 | succ n=>exact .inr (by show 1≤1+_;omega)
theorem QA {α:Type}(f:α→Nat):∀ (l:List α),(∀ x,x∈l→1≤f x)→l.length≤(l.map f).sum
 | [],_=>XA
 | x::l,h=>by
  have:=QA f l (fun y a=>h y (List.mem_cons_of_mem _ a))
  have:=h x (List.mem_cons_self ..)
  simp only [List.map_cons,List.sum_cons,List.length_cons]
  omega
theorem kids_few {n:Nat}(v:VS (V n)):v.l.length+v.m.length<zq (n+1) v:=by
 have h:v.kids.length≤(v.kids.map (zq n)).sum:=QA _ _ (fun x _=>by
  rcases QS (v:=x) with h | h
  ·subst h;exact nomatch x
  ·exact h)
 have e:v.kids.length=v.l.length+v.m.length:=by simp [VS.kids]
 show _<1+_
 omega
theorem je {n:Nat}{v:VS (V n)}{x:V n}(h:x∈v.l):x∈v.kids:=List.mem_append_left _ h
theorem kN {n:Nat}{v:VS (V n)}{p:ByteArray×V n}(h:p∈v.m):p.2∈v.kids:=List.mem_append_right _ (List.mem_map.2 ⟨p,h,rfl⟩)
theorem key_le {n:Nat}{v:VS (V n)}{p:ByteArray×V n}(h:p∈v.m):p.1.size≤zT (n+1) v:=by
 have:=Kc (List.mem_map.2 ⟨p,h,rfl⟩:p.1.size∈v.m.map (fun p=>p.1.size))
 show _≤v.s.size+v.keyBytes+_
 unfold VS.keyBytes
 omega
def zP (n:Nat)(v:V n):Prop:=zq n v≤20000∧zT n v≤400000
theorem zP.kid {n:Nat}{v:VS (V n)}(h:zP (n+1) v){x:V n}(a:x∈v.kids):zP n x:=
 ⟨Nat.le_trans (Nat.le_of_lt (countV_kid a)) h.1,Nat.le_trans (bytesV_kid a) h.2⟩
def up:(n:Nat)→V n→V (n+1)
 | 0,v=>nomatch v
 | n+1,(v:VS (V n))=>v.map (up n)
def goL {α:Type}(f:α→Nat):Nat→List α→Nat
 | a,[]=>a
 | a,x::l=>if a≤6000 then goL f (a+f x) l else a
theorem goL_stop {α:Type}(f:α→Nat){a:Nat}(h:6000<a)(l:List α):goL f a l=a:=by
 cases l with
 | nil=>rfl
 | cons x l=>unfold goL;rw [if_neg Ws]
theorem goL_ge {α:Type}(f:α→Nat):∀ (l:List α) (a:Nat),a≤goL f a l
 | [],_=>XA
 | x::l,a=>by
  unfold goL
  split
  ·have:=goL_ge f l (a+f x);omega
  ·exact XA
theorem goL_few {α:Type}(f:α→Nat):∀ (l:List α) (a:Nat),goL f a l≤6000→goL f a l=a+(l.map f).sum
 | [],a,_=>by simp [goL]
 | x::l,a,h=>by
  have ha:a≤6000:=Nat.le_trans (goL_ge f (x::l) a) h
  unfold goL at h ⊢
  rw [if_pos ha] at h ⊢
  rw [goL_few f l _ h]
  simp;omega
theorem goL_le {α:Type}(f:α→Nat){B:Nat}:∀ (l:List α) (a:Nat),(∀ x,x∈l→f x≤B)→a≤6000+B→goL f a l≤6000+B
 | [],_,_,h=>h
 | x::l,a,hf,h=>by
  unfold goL
  split
  ·exact goL_le f l _ (fun y hy=>hf y (List.mem_cons_of_mem _ hy)) (XC (hf x (List.mem_cons_self ..)))
  ·exact h
def kJ {α:Type}(f:α→Nat)(p:ByteArray×α):Nat:=1+p.1.size/10+f p.2
def zO:(n:Nat)→Nat→V n→Nat
 | 0,_,_=>0
 | n+1,d,(v:VS (V n))=>if 20<d∨3000<v.l.length+v.m.length then 10000 else goL (kJ (zO n (d+1))) (goL (zO n (d+1)) (1+v.s.size/10) v.l) v.m
theorem jT {α:Type}{f g:α→Nat}:∀ (l:List α),(∀ x,x∈l→f x≤g x)→(l.map f).sum≤(l.map g).sum
 | [],_=>XA
 | x::l,h=>by
  have:=jT l (fun y a=>h y (List.mem_cons_of_mem _ a))
  have:=h x (List.mem_cons_self ..)
  simp only [List.map_cons,List.sum_cons]
  omega
theorem Kn {α:Type}(c:Nat)(f:α→Nat):∀ (l:List α),(l.map (fun x=>c*f x)).sum=c*(l.map f).sum
 | []=>rfl
 | x::l=>by
  have:=Kn c f l
  simp only [List.map_cons,List.sum_cons,this,Nat.mul_add]
theorem KO {α:Type}(f g:α→Nat):∀ (l:List α),(l.map (fun x=>f x+g x)).sum=(l.map f).sum+(l.map g).sum
 | []=>rfl
 | x::l=>by
  have:=KO f g l
  simp only [List.map_cons,List.sum_cons,this]
  omega
theorem J5 {n:Nat}{v:VS (V n)}(h:zO (n+1) d v≤6000) : d≤20∧v.l.length+v.m.length≤3000∧zO (n+1) d v=1+v.s.size/10+(v.l.map (zO n (d+1))).sum+(v.m.map (kJ (zO n (d+1)))).sum:=by
 have e:zO (n+1) d v=if 20<d∨3000<v.l.length+v.m.length then 10000 else goL (kJ (zO n (d+1))) (goL (zO n (d+1)) (1+v.s.size/10) v.l) v.m:=rfl
 rw [e] at h ⊢
 split at h
 ·omega
 ·rename_i hc
  rw [if_neg hc]
  have a:=goL_few _ _ _ h
  have h2:goL (zO n (d+1)) (1+v.s.size/10) v.l≤6000:=Nat.le_trans (goL_ge _ _ _) h
  rw [a,goL_few _ _ _ h2]
  exact⟨Ws,Ws,rfl⟩
theorem large_kid {n:Nat}{v:VS (V n)}(h:zO (n+1) d v≤6000){x:V n}(a:x∈v.kids):zO n (d+1) x≤6000:=by
 obtain⟨_,_,e⟩:=J5 h
 rcases List.mem_append.1 a with a | a
 ·have:=Kc (List.mem_map.2 ⟨x,a,rfl⟩:zO n (d+1) x∈v.l.map (zO n (d+1)))
  omega
 ·obtain⟨p,hp,rfl⟩:=List.mem_map.1 a
  have:=Kc (List.mem_map.2 ⟨p,hp,rfl⟩:kJ (zO n (d+1)) p∈v.m.map (kJ (zO n (d+1))))
  have b:kJ (zO n (d+1)) p=1+p.1.size/10+zO n (d+1) p.2:=rfl
  omega
theorem jn {n:Nat}(f:V n→Nat)(v:VS (V n)):(v.kids.map f).sum=(v.l.map f).sum+(v.m.map (fun p=>f p.2)).sum:=by
 simp [VS.kids,Function.comp_def]
theorem Y1:∀ (n d:Nat) (v:V n),zO n d v≤6000→zq n v≤zO n d v∧zT n v≤10*zO n d v∧(n=0∨d+zH n v≤21)
 | 0,_,v,_=>nomatch v
 | n+1,d,(v:VS (V n)),h=>by
  obtain⟨h1,h2,e⟩:=J5 h
  have b:=fun x (a:x∈v.kids)=>Y1 n (d+1) x (large_kid h a)
  have c1:(v.l.map (zq n)).sum≤(v.l.map (zO n (d+1))).sum:=jT _ fun x a=>(b x (je a)).1
  have c2:(v.m.map (fun p=>zq n p.2)).sum≤(v.m.map (kJ (zO n (d+1)))).sum:=jT _ fun p hp=>by
   have:=(b p.2 (kN hp)).1
   unfold kJ;omega
  have b1:(v.l.map (zT n)).sum≤10*(v.l.map (zO n (d+1))).sum:=by
   rw [← Kn]
   exact jT _ fun x a=>(b x (je a)).2.1
  have b2:(v.m.map (fun p=>p.1.size+zT n p.2)).sum≤10*(v.m.map (kJ (zO n (d+1)))).sum:=by
   rw [← Kn]
   exact jT _ fun p hp=>by
    have:=(b p.2 (kN hp)).2.1
    unfold kJ;omega
  rw [KO] at b2
  have j:zq (n+1) v=1+((v.l.map (zq n)).sum+(v.m.map (fun p=>zq n p.2)).sum):=by rw [← jn];rfl
  have i:zT (n+1) v=v.s.size+(v.m.map (fun p=>p.1.size)).sum+((v.l.map (zT n)).sum+(v.m.map (fun p=>zT n p.2)).sum):=by rw [← jn];rfl
  refine⟨Ws,Ws,.inr ?_⟩
  have hd:qM (v.kids.map (zH n))≤20-d:=by
   refine bt.2 fun x a=>?_
   obtain⟨y,f,rfl⟩:=List.mem_map.1 a
   rcases (b y f).2.2 with h3 | h3
   ·subst h3;exact nomatch y
   ·omega
  show d+(1+qM (v.kids.map (zH n)))≤21
  omega
theorem small_of {n:Nat}{v:V n}(h:zO n d v≤6000):zP n v:=by
 obtain⟨a,h2,_⟩:=Y1 n d v h
 exact⟨Ws,Ws⟩
def kv (B:Nat):(n:Nat)→V n→Prop
 | 0,_=>True
 | n+1,(v:VS (V n))=>(v.s.size≤B∧v.l.length≤B∧v.m.length≤B)∧(∀ p,p∈v.m→p.1.size≤B)∧∀ x,x∈v.kids→kv B n x
theorem large_le {B:Nat}:∀ (n d:Nat) (v:V n),kv B n v→zO n d v≤(22-d)*(20000+2*B)+20000
 | 0,_,v,_=>nomatch v
 | n+1,d,(v:VS (V n)),h=>by
  obtain⟨⟨h1,_,_⟩,h2,h3⟩:=h
  have e:zO (n+1) d v=if 20<d∨3000<v.l.length+v.m.length then 10000 else goL (kJ (zO n (d+1))) (goL (zO n (d+1)) (1+v.s.size/10) v.l) v.m:=rfl
  rw [e]
  split
  ·omega
  ·rename_i hc
   have hd:d≤20:=Ws
   have a:=fun x (b:x∈v.kids)=>large_le (B:=B) n (d+1) x (h3 x b)
   have hm:(22-d)*(20000+2*B)=(22-(d+1))*(20000+2*B)+(20000+2*B):=by
    rw [show 22-d=(22-(d+1))+1 by omega,Nat.add_mul,Nat.one_mul]
   rw [hm]
   revert a
   generalize (22-(d+1))*(20000+2*B)=Z
   intro a
   have f:goL (zO n (d+1)) (1+v.s.size/10) v.l≤6000+(Z+20000+B):=goL_le _ _ _ (fun x b=>by have:=a x (je b);omega) Ws
   have i:goL (kJ (zO n (d+1))) (goL (zO n (d+1)) (1+v.s.size/10) v.l) v.m≤6000+(Z+20001+B):=goL_le _ _ _ (fun p hp=>by
    have:=a p.2 (kN hp)
    have:=h2 p hp
    unfold kJ;omega) Ws
   omega
def eqL {α:Type}(r:α→α→Bool):List α→List α→Bool
 | [],[]=>true
 | x::xs,y::ys=>r x y&&eqL r xs ys
 | _,_=>false
theorem eqL_iff {α:Type}{r:α→α→Bool}(h:∀ x y,r x y=true↔x=y):∀ (xs ys:List α),eqL r xs ys=true↔xs=ys
 | [],[]=>by simp [eqL]
 | [],y::ys=>by simp [eqL]
 | x::xs,[]=>by simp [eqL]
 | x::xs,y::ys=>by simp [eqL,h x y,eqL_iff h xs ys]
def eqV:(n:Nat)→V n→V n→Bool
 | 0,_,_=>true
 | n+1,(a:VS (V n)),(b:VS (V n))=>decide (a.kind=b.kind)&&decide (a.num=b.num)&&decide (a.s=b.s)&&eqL (eqV n) a.l b.l&&eqL (fun p q=>decide (p.1=q.1)&&eqV n p.2 q.2) a.m b.m
theorem eqV_iff:∀ (n:Nat) (a b:V n),eqV n a b=true↔a=b
 | 0,a,_=>nomatch a
 | n+1,(a:VS (V n)),(b:VS (V n))=>by
  have ih:=eqV_iff n
  have e:eqV (n+1) a b=(decide (a.kind=b.kind)&&decide (a.num=b.num)&&decide (a.s=b.s)&&eqL (eqV n) a.l b.l&&eqL (fun p q=>decide (p.1=q.1)&&eqV n p.2 q.2) a.m b.m):=rfl
  have hp:∀ p q:ByteArray×V n,(decide (p.1=q.1)&&eqV n p.2 q.2)=true↔p=q:=fun p q=>by
   rw [Bool.and_eq_true,decide_eq_true_iff,ih p.2 q.2]
   exact⟨fun h=>Prod.ext h.1 h.2,fun h=>by rw [h];exact⟨rfl,rfl⟩⟩
  rw [e]
  simp only [Bool.and_eq_true,decide_eq_true_iff,eqL_iff ih,eqL_iff hp]
  exact⟨fun⟨⟨⟨⟨h1,h2⟩,h3⟩,h4⟩,h5⟩=>VS.ext' h1 h2 h3 h4 h5,fun h=>by rw [h];exact⟨⟨⟨⟨rfl,rfl⟩,rfl⟩,rfl⟩,rfl⟩⟩
def zw (s:ByteArray):Bool:=Lib.validD s.data.toList
def bR (s:ByteArray):Bool:=decide (s=⟨#[]⟩)
def yV {α:Type}(m:List (ByteArray×α)):Bool:=m.all (fun p=>zw p.1)&&decide ((m.map (fun p=>p.1)).Nodup)
def zE {α:Type}(v:VS α):Bool:=
 if v.kind=1 then decide (v.num=0)&&bR v.s&&v.l.isEmpty&&v.m.isEmpty
 else if v.kind=2 then decide (v.num=0∨v.num=1)&&bR v.s&&v.l.isEmpty&&v.m.isEmpty
 else if v.kind=3 then decide (-9007199254740991≤v.num∧v.num≤9007199254740991)&&bR v.s&&v.l.isEmpty&&v.m.isEmpty
 else if v.kind=4 then zw v.s&&decide (v.num=0)&&v.l.isEmpty&&v.m.isEmpty
 else if v.kind=5 then decide (v.num=0)&&bR v.s&&v.m.isEmpty
 else if v.kind=6 then yV v.m&&decide (v.num=0)&&bR v.s&&v.l.isEmpty
 else false
def zo:(n:Nat)→V n→Bool
 | 0,_=>true
 | n+1,(v:VS (V n))=>zE v&&v.kids.all (zo n)
def zY (n:Nat)(v:V n):Int:=if 12<zH n v then 41 else if 4096<zq n v then 42 else if zo n v then 0 else 40
theorem qh {n:Nat}{v:V n}:zY n v=0↔zH n v≤12∧zq n v≤4096∧zo n v=true:=by
 unfold zY
 split
 ·constructor
  ·intro h;cases h
  ·intro h;omega
 ·split
  ·constructor
   ·intro h;cases h
   ·intro h;omega
  ·split
   ·rename_i a h2 h3;exact⟨fun _=>⟨Ws,Ws,h3⟩,fun _=>rfl⟩
   ·rename_i a h2 h3;exact⟨(fun h=>by cases h),(fun h=>absurd h.2.2 h3)⟩
theorem jg {n:Nat}{v:VS (V n)}(h:zo (n+1) v=true){x:V n}(a:x∈v.kids):zo n x=true:=by
 have e:zo (n+1) v=(zE v&&v.kids.all (zo n)):=rfl
 rw [e,Bool.and_eq_true] at h
 exact List.all_eq_true.1 h.2 x a
theorem jR {n:Nat}{v:VS (V n)}(h:zo (n+1) v=true):zE v=true:=by
 have e:zo (n+1) v=(zE v&&v.kids.all (zo n)):=rfl
 rw [e,Bool.and_eq_true] at h
 exact h.1
theorem jM {α:Type}{v:VS α}(h:zE v=true) : (v.kind=1∧v.num=0∧v.s=⟨#[]⟩∧v.l=[]∧v.m=[])∨(v.kind=2∧(v.num=0∨v.num=1)∧v.s=⟨#[]⟩∧v.l=[]∧v.m=[])∨(v.kind=3∧(-9007199254740991≤v.num∧v.num≤9007199254740991)∧v.s=⟨#[]⟩∧v.l=[]∧v.m=[])∨(v.kind=4∧v.num=0∧zw v.s=true∧v.l=[]∧v.m=[])∨(v.kind=5∧v.num=0∧v.s=⟨#[]⟩∧v.m=[])∨(v.kind=6∧v.num=0∧v.s=⟨#[]⟩∧v.l=[]∧yV v.m=true):=by
 unfold zE bR at h
 split at h
 ·rename_i e;simp only [Bool.and_eq_true,decide_eq_true_iff,List.isEmpty_iff] at h;exact .inl ⟨e,h.1.1.1,h.1.1.2,h.1.2,h.2⟩
 split at h
 ·rename_i e;simp only [Bool.and_eq_true,decide_eq_true_iff,List.isEmpty_iff] at h;exact .inr (.inl ⟨e,h.1.1.1,h.1.1.2,h.1.2,h.2⟩)
 split at h
 ·rename_i e;simp only [Bool.and_eq_true,decide_eq_true_iff,List.isEmpty_iff] at h;exact .inr (.inr (.inl ⟨e,h.1.1.1,h.1.1.2,h.1.2,h.2⟩))
 split at h
 ·rename_i e;simp only [Bool.and_eq_true,decide_eq_true_iff,List.isEmpty_iff] at h;exact .inr (.inr (.inr (.inl ⟨e,h.1.1.2,h.1.1.1,h.1.2,h.2⟩)))
 split at h
 ·rename_i e;simp only [Bool.and_eq_true,decide_eq_true_iff,List.isEmpty_iff] at h;exact .inr (.inr (.inr (.inr (.inl ⟨e,h.1.1,h.1.2,h.2⟩))))
 split at h
 ·rename_i e;simp only [Bool.and_eq_true,decide_eq_true_iff,List.isEmpty_iff] at h;exact .inr (.inr (.inr (.inr (.inr ⟨e,h.1.1.2,h.1.2,h.2,h.1.1.1⟩))))
 ·cases h
def leK {α:Type}(a b:ByteArray×α):Bool:=decide (a.1.data.toList≤b.1.data.toList)
def zI:(n:Nat)→V n→V n
 | 0,v=>v
 | n+1,(v:VS (V n))=>(⟨v.kind,v.num,v.s,v.l.map (zI n),(v.m.map (fun p=>(p.1,zI n p.2))).mergeSort leK⟩:VS (V n))
theorem Qt {α:Type}(a b c:ByteArray×α)(d:leK a b=true)(h2:leK b c=true):leK a c=true:=by
 simp only [leK,decide_eq_true_eq] at *
 exact List.le_trans d h2
theorem KY {α:Type}(a b:ByteArray×α):(leK a b || leK b a)=true:=by
 simp only [leK,Bool.or_eq_true,decide_eq_true_eq]
 exact List.le_total _ _
theorem zak {x y:ByteArray}(h:x.data.toList=y.data.toList):x=y:=by
 cases x;cases y
 simp only [ByteArray.mk.injEq] at *
 exact Array.toList_inj.1 h
theorem QG {α:Type}{a b:List (ByteArray×α)}(hp:a.Perm b)(t:a.Pairwise (fun x y=>leK x y=true))(r:b.Pairwise (fun x y=>leK x y=true))(k:(a.map (fun p=>p.1)).Nodup):a=b:=by
 refine List.Perm.eq_of_pairwise (le:=fun x y=>leK x y=true) (fun x y q s n h2=>?_) t r hp
 simp only [leK,decide_eq_true_eq] at n h2
 have e:x.1=y.1:=zak (List.le_antisymm n h2)
 have f:y∈a:=hp.mem_iff.2 s
 obtain⟨i,m,rfl⟩:=List.getElem_of_mem q
 obtain⟨j,l,rfl⟩:=List.getElem_of_mem f
 have d:i=j:=by
  rcases Nat.lt_trichotomy i j with h | h | h
  ·exact absurd e (by
    have:=(List.pairwise_iff_getElem.1 k) i j (by simpa using m) (by simpa using l) h
    simpa using this)
  ·exact h
  ·exact absurd e.symm (by
    have:=(List.pairwise_iff_getElem.1 k) j i (by simpa using l) (by simpa using m) h
    simpa using this)
 subst d;rfl
def vD (n:Nat):UInt8:=UInt8.ofNat (if n<10 then 48+n else 87+n)
def yp (c:UInt8):List UInt8:=if c.toNat<32 then [92,117,48,48,vD (c.toNat/16),vD (c.toNat%16)] else if c=34∨c=92 then [92,c] else [c]
def yH (s:List UInt8):List UInt8:=34::(s.flatMap yp++[34])
def zX:List (List UInt8)→List UInt8
 | []=>[]
 | [x]=>x
 | x::y::l=>x++(44::zX (y::l))
def zr:(n:Nat)→V n→List UInt8
 | 0,_=>[]
 | n+1,(v:VS (V n))=>
  if v.kind=1 then [110,117,108,108]
  else if v.kind=2 then (if v.num=1 then [116,114,117,101] else [102,97,108,115,101])
  else if v.kind=3 then Lib.itoa v.num
  else if v.kind=4 then yH v.s.data.toList
  else if v.kind=5 then 91::(zX (v.l.map (zr n))++[93])
  else 123::(zX (v.m.map (fun p=>yH p.1.data.toList++(58::zr n p.2)))++[125])
def xR (n:Nat)(v:V n):List UInt8×Int:=
 if zY n v≠0 then ([],zY n v) else if 262144<(zr n (zI n v)).length then ([],3) else (zr n (zI n v),0)
def zx (l:List UInt8):ByteArray:=⟨l.toArray⟩
theorem zK (l:List UInt8):(zx l).data.toList=l:=by simp [zx]
theorem Kw (s:ByteArray):zx s.data.toList=s:=by cases s;simp [zx]
def Zt (c:UInt8):Bool:=c == 32 || c == 9 || c == 10 || c == 13
def zu (s:List UInt8):List UInt8:=s.dropWhile Zt
def xz (c:UInt8):Bool:=decide (48≤c.toNat)&&decide (c.toNat≤57)
def vB (c:UInt8):Option Nat:=
 if 48≤c.toNat∧c.toNat≤57 then some (c.toNat-48) else if 97≤c.toNat∧c.toNat≤102 then some (c.toNat-87) else if 65≤c.toNat∧c.toNat≤70 then some (c.toNat-55) else none
def hex4 (a b c d:UInt8):Option Nat:=
 match vB a,vB b,vB c,vB d with
 | some x,some y,some z,some t=>some (((x*16+y)*16+z)*16+t)
 | _,_,_,_=>none
def jf:List UInt8→Option Nat
 | x::y::a::b::c::d::_=>if x=92∧y=117 then hex4 a b c d else none
 | _=>none
def utfB (r:Int):List UInt8:=(Utf8.encode r).data.toList
def yo (r:Nat):List UInt8:=utfB r
def bo (s:List UInt8):Option (List UInt8×Nat):=
 match s with
 | _::y::_=>
  if y=34 then some ([34],2) else if y=92 then some ([92],2) else if y=47 then some ([47],2) else if y=98 then some ([8],2) else if y=102 then some ([12],2)
  else if y=110 then some ([10],2) else if y=114 then some ([13],2) else if y=116 then some ([9],2)
  else match jf s with
   | none=>none
   | some x=>
    if x<55296∨57343<x then some (yo x,6)
    else if 56319<x then none
    else match jf (s.drop 6) with
     | none=>none
     | some z=>if 56320≤z∧z≤57343 then some (yo (65536+(x-55296)*1024+(z-56320)),12) else none
 | _=>none
def xW:Nat→List UInt8→List UInt8→Sum Int (List UInt8×List UInt8)
 | 0,_,_=>.inl 31
 | f+1,s,acc=>
  match s with
  | []=>.inl 31
  | c::r=>
   if c=34 then .inr (acc,r)
   else if c.toNat<32 then .inl 31
   else if c=92 then
    match bo s with
    | none=>.inl 31
    | some (b,n)=>xW f (s.drop n) (acc++b)
   else if (Lib.decodeL s).1=65533∧(Lib.decodeL s).2=1 then .inl 30
   else xW f (s.drop (Lib.decodeL s).2) (acc++s.take (Lib.decodeL s).2)
def kH (s:List UInt8):Sum Int (List UInt8×List UInt8):=
 match s with
 | []=>.inl 31
 | c::r=>if c=34 then xW (r.length+1) r [] else .inl 31
def zQ (s:List UInt8):Nat:=s.foldl (fun a c=>10*a+(c.toNat-48)) 0
def vq (s:List UInt8)(l:List UInt8):Bool:=match s with | []=>false | c::_=>l.contains c
def jB (minus:Bool)(s:List UInt8):Sum Int (Int×List UInt8):=
 let ds:=s.takeWhile xz
 if ds=[]∨(ds.head? = some 48∧(minus=true∨1<ds.length)) then .inl 50
 else if vq (s.drop ds.length) [46,101,69] then .inl 51
 else if 9007199254740991<zQ ds then .inl 52
 else .inr (if minus then -(zQ ds:Int) else zQ ds,s.drop ds.length)
def jE (s:List UInt8):Sum Int (Int×List UInt8):=if s.head? = some 45 then jB true s.tail else jB false s
def Zh:List UInt8:=[110,117,108,108]
def Zb:List UInt8:=[116,114,117,101]
def jY:List UInt8:=[102,97,108,115,101]
def xN (s:List UInt8):Bool:=Zh.isPrefixOf s || Zb.isPrefixOf s || jY.isPrefixOf s || vq s [34,91,123,45,48,49,50,51,52,53,54,55,56,57]
def leaf {α:Type}(k n:Int)(s:ByteArray):VS α:=⟨k,n,s,[],[]⟩
section
variable {α : Type} (sub : List UInt8 → Nat → Sum Int (α × List UInt8 × Nat))
def ZZ:Nat→List UInt8→Nat→List α→Sum Int (List α×List UInt8×Nat)
 | 0,_,_,_=>.inl 50
 | f+1,s,c,acc=>
  match sub s c with
  | .inl e=>.inl e
  | .inr (v,r,c')=>if r.head? = some 93 then .inr (acc++[v],r.tail,c') else if r.head? = some 44 then ZZ f r.tail c' (acc++[v]) else .inl 50
def bi:Nat→List UInt8→Nat→List (ByteArray×α)→Sum Int (List (ByteArray×α)×List UInt8×Nat)
 | 0,_,_,_=>.inl 50
 | f+1,s,c,acc=>
  match kH (zu s) with
  | .inl e=>.inl e
  | .inr (k,r)=>
   if acc.any (fun p=>decide (p.1=zx k)) then .inl 53
   else if (zu r).head? = some 58 then
    match sub (zu r).tail c with
    | .inl e=>.inl e
    | .inr (v,r,c')=>if r.head? = some 125 then .inr (acc++[(zx k,v)],r.tail,c') else if r.head? = some 44 then bi f r.tail c' (acc++[(zx k,v)]) else .inl 50
   else .inl 50
def xA (s:List UInt8)(c:Nat):Sum Int (VS α×List UInt8×Nat):=
 if Zh.isPrefixOf s then .inr (leaf 1 0 ⟨#[]⟩,s.drop 4,c)
 else if Zb.isPrefixOf s then .inr (leaf 2 1 ⟨#[]⟩,s.drop 4,c)
 else if jY.isPrefixOf s then .inr (leaf 2 0 ⟨#[]⟩,s.drop 5,c)
 else if s.head? = some 34 then (match kH s with | .inl e=>.inl e | .inr (t,r)=>.inr (leaf 4 0 (zx t),r,c))
 else if s.head? = some 91 then
  (if (zu s.tail).head? = some 93 then .inr (leaf 5 0 ⟨#[]⟩,(zu s.tail).tail,c)
  else match ZZ sub (s.length+1) (zu s.tail) c [] with | .inl e=>.inl e | .inr (l,r,c')=>.inr (⟨5,0,⟨#[]⟩,l,[]⟩,r,c'))
 else if s.head? = some 123 then
  (if (zu s.tail).head? = some 125 then .inr (leaf 6 0 ⟨#[]⟩,(zu s.tail).tail,c)
  else match bi sub (s.length+1) (zu s.tail) c [] with | .inl e=>.inl e | .inr (m,r,c')=>.inr (⟨6,0,⟨#[]⟩,[],m⟩,r,c'))
 else match jE s with | .inl e=>.inl e | .inr (n,r)=>.inr (leaf 3 n ⟨#[]⟩,r,c)
end
def zy:(d:Nat)→List UInt8→Nat→Sum Int (V d×List UInt8×Nat)
 | 0,s,c=>.inl (if xN (zu s)=false then 50 else if 4096<c+1 then 42 else 41)
 | d+1,s,c=>
  if xN (zu s)=false then .inl 50 else if 4096<c+1 then .inl 42
  else match xA (zy d) (zu s) (c+1) with | .inl e=>.inl e | .inr (v,r,c')=>.inr (v,zu r,c')
def xI (b:List UInt8):Sum Int (V 12):=
 if 262144<b.length then .inl 3
 else match zy 12 b 0 with | .inl e=>.inl e | .inr (v,r,_)=>if r=[] then .inr v else .inl 50
open Go.Lib (decodeN decodeL)
def gb (l:List UInt8)(i:Nat):Nat:=(l.getD i 0).toNat
theorem get_getD (l:List UInt8)(i:Nat):((⟨l.toArray⟩:ByteArray).get! i)=l.getD i 0:=by
 show l.toArray[i]! = _
 rw [List.getD_eq_getElem?_getD,getElem!_def]
 simp only [List.getElem?_toArray]
 cases l[i]? <;> rfl
theorem qJ (l:List UInt8):decodeL l=decodeN l.length (gb l 0) (gb l 1) (gb l 2) (gb l 3):=by
 unfold decodeL
 rw [Lib.decode_at]
 have a:(⟨l.toArray⟩:ByteArray).size=l.length:=by simp [ByteArray.size]
 simp only [a,Nat.sub_zero,Nat.zero_add,get_getD,gb]
theorem gb_app (l x:List UInt8)(i:Nat)(h:i<l.length):gb (l++x) i=gb l i:=by
 unfold gb
 rw [List.getD_eq_getElem?_getD,List.getD_eq_getElem?_getD,List.getElem?_append_left h]
theorem Z5 (l:List UInt8)(i:Nat):gb l i<256:=(l.getD i 0).toNat_lt
theorem zbI {n:Nat}(a:1≤n)(e:b1<256)(h2:b2<256)(h3:b3<256)(b:b0<256)(h:¬((decodeN n b0 b1 b2 b3).1=65533∧(decodeN n b0 b1 b2 b3).2=1)) : (b0<128∧decodeN n b0 b1 b2 b3=(b0,1))∨(128≤b0∧b0/32=6∧2≤n∧b1/64=2∧128≤b0%32*64+b1%64∧decodeN n b0 b1 b2 b3=(b0%32*64+b1%64,2))∨(128≤b0∧b0/16=14∧3≤n∧b1/64=2∧b2/64=2∧2048≤b0%16*4096+b1%64*64+b2%64∧(b0%16*4096+b1%64*64+b2%64<55296∨57344≤b0%16*4096+b1%64*64+b2%64)∧decodeN n b0 b1 b2 b3=(b0%16*4096+b1%64*64+b2%64,3))∨(128≤b0∧b0/8=30∧4≤n∧b1/64=2∧b2/64=2∧b3/64=2∧65536≤b0%8*262144+b1%64*4096+b2%64*64+b3%64∧b0%8*262144+b1%64*4096+b2%64*64+b3%64≤1114111∧decodeN n b0 b1 b2 b3=(b0%8*262144+b1%64*4096+b2%64*64+b3%64,4)):=by
 unfold decodeN at h ⊢
 by_cases c0:b0<128
 ·rw [if_pos c0];exact .inl ⟨c0,rfl⟩
 rw [if_neg c0] at h ⊢
 by_cases c1:b0/32=6∧(1<n∧b1/64=2)
 ·rw [if_pos c1] at h ⊢
  by_cases d:b0%32*64+b1%64≥128
  ·rw [if_pos d];exact .inr (.inl ⟨Ws,c1.1,Ws,c1.2.2,d,rfl⟩)
  ·rw [if_neg d] at h;exact absurd ⟨rfl,rfl⟩ h
 rw [if_neg c1] at h ⊢
 by_cases c2:b0/16=14∧(1<n∧b1/64=2)∧(2<n∧b2/64=2)
 ·rw [if_pos c2] at h ⊢
  split at h
  ·rename_i d;rw [if_pos d];exact .inr (.inr (.inl ⟨Ws,c2.1,Ws,c2.2.1.2,c2.2.2.2,d.1,Ws,rfl⟩))
  ·exact absurd ⟨rfl,rfl⟩ h
 rw [if_neg c2] at h ⊢
 by_cases c3:b0/8=30∧(1<n∧b1/64=2)∧(2<n∧b2/64=2)∧(3<n∧b3/64=2)
 ·rw [if_pos c3] at h ⊢
  split at h
  ·rename_i d;rw [if_pos d];exact .inr (.inr (.inr ⟨Ws,c3.1,Ws,c3.2.1.2,c3.2.2.1.2,c3.2.2.2.2,d.1,Ws,rfl⟩))
  ·exact absurd ⟨rfl,rfl⟩ h
 rw [if_neg c3] at h
 exact absurd ⟨rfl,rfl⟩ h
theorem decodeN_more {n m c1 c2 c3:Nat}(r:1≤n)(hm:(decodeN n b0 b1 b2 b3).2≤m)(t:b1<256)(h2:b2<256)(h3:b3<256)(s:b0<256)(h:¬((decodeN n b0 b1 b2 b3).1=65533∧(decodeN n b0 b1 b2 b3).2=1))(a:1<(decodeN n b0 b1 b2 b3).2→c1=b1)(j:2<(decodeN n b0 b1 b2 b3).2→c2=b2)(l:3<(decodeN n b0 b1 b2 b3).2→c3=b3):decodeN m b0 c1 c2 c3=decodeN n b0 b1 b2 b3:=by
 rcases zbI r t h2 h3 s h with ⟨i,e⟩ | ⟨i,b,p,d,f,e⟩ | ⟨i,b,p,d,f,k,q,e⟩ | ⟨i,b,p,d,f,k,q,u,e⟩
 all_goals
  rw [e] at hm a j l
  simp only at hm a j l
 ·rw [e];unfold decodeN;rw [if_pos i]
 ·rw [e,a Ws]
  unfold decodeN
  rw [if_neg Ws,if_pos ⟨b,Ws,d⟩,if_pos f]
 ·rw [e,a Ws,j Ws]
  unfold decodeN
  rw [if_neg Ws,if_neg Ws,if_pos ⟨b,⟨Ws,d⟩,Ws,f⟩,if_pos ⟨k,Ws⟩]
 ·rw [e,a Ws,j Ws,l Ws]
  unfold decodeN
  rw [if_neg Ws,if_neg Ws,if_neg Ws,if_pos ⟨b,⟨Ws,d⟩,⟨Ws,f⟩,Ws,k⟩,if_pos ⟨q,Ws⟩]
theorem take_two (h:2≤l.length):l.take 2=[l.getD 0 0,l.getD 1 0]:=by
 match l,h with
 | a::b::t,_=>rfl
theorem zaO (h:3≤l.length):l.take 3=[l.getD 0 0,l.getD 1 0,l.getD 2 0]:=by
 match l,h with
 | a::b::c::t,_=>rfl
theorem take_four (h:4≤l.length):l.take 4=[l.getD 0 0,l.getD 1 0,l.getD 2 0,l.getD 3 0]:=by
 match l,h with
 | a::b::c::d::t,_=>rfl
theorem enc_aux (c:Nat):(if c<128 then (⟨#[UInt8.ofNat c]⟩:ByteArray) else if c<2048 then ⟨#[UInt8.ofNat (192+c/64),UInt8.ofNat (128+c%64)]⟩ else if c<65536 then ⟨#[UInt8.ofNat (224+c/4096),UInt8.ofNat (128+c/64%64),UInt8.ofNat (128+c%64)]⟩ else ⟨#[UInt8.ofNat (240+c/262144),UInt8.ofNat (128+c/4096%64),UInt8.ofNat (128+c/64%64),UInt8.ofNat (128+c%64)]⟩).data.toList = if c<128 then [UInt8.ofNat c] else if c<2048 then [UInt8.ofNat (192+c/64),UInt8.ofNat (128+c%64)] else if c<65536 then [UInt8.ofNat (224+c/4096),UInt8.ofNat (128+c/64%64),UInt8.ofNat (128+c%64)] else [UInt8.ofNat (240+c/262144),UInt8.ofNat (128+c/4096%64),UInt8.ofNat (128+c/64%64),UInt8.ofNat (128+c%64)]:=by
 by_cases c1:c<128
 ·rw [if_pos c1,if_pos c1]
 rw [if_neg c1,if_neg c1]
 by_cases c2:c<2048
 ·rw [if_pos c2,if_pos c2]
 rw [if_neg c2,if_neg c2]
 by_cases c3:c<65536
 ·rw [if_pos c3,if_pos c3]
 rw [if_neg c3,if_neg c3]
theorem valid_of (c:Nat)(h:c<55296∨(57344≤c∧c≤1114111)):Utf8.valid (c:Int)=true:=by
 unfold Utf8.valid
 rw [Bool.or_eq_true,Bool.and_eq_true,Bool.and_eq_true]
 simp only [decide_eq_true_eq]
 omega
theorem enc_of (r:Int)(h:Utf8.valid r=true):utfB r=if r.toNat<128 then [UInt8.ofNat r.toNat] else if r.toNat<2048 then [UInt8.ofNat (192+r.toNat/64),UInt8.ofNat (128+r.toNat%64)] else if r.toNat<65536 then [UInt8.ofNat (224+r.toNat/4096),UInt8.ofNat (128+r.toNat/64%64),UInt8.ofNat (128+r.toNat%64)] else [UInt8.ofNat (240+r.toNat/262144),UInt8.ofNat (128+r.toNat/4096%64),UInt8.ofNat (128+r.toNat/64%64),UInt8.ofNat (128+r.toNat%64)]:=by
 unfold utfB Utf8.encode
 rw [if_pos h]
 exact enc_aux _
theorem qP (c:Nat)(h:c<55296∨(57344≤c∧c≤1114111)):yo c = if c<128 then [UInt8.ofNat c] else if c<2048 then [UInt8.ofNat (192+c/64),UInt8.ofNat (128+c%64)] else if c<65536 then [UInt8.ofNat (224+c/4096),UInt8.ofNat (128+c/64%64),UInt8.ofNat (128+c%64)] else [UInt8.ofNat (240+c/262144),UInt8.ofNat (128+c/4096%64),UInt8.ofNat (128+c/64%64),UInt8.ofNat (128+c%64)]:=by
 have e:=enc_of c (valid_of c h)
 rw [Int.toNat_natCast] at e
 exact e
structure Kr (l:List UInt8)(c n:Nat):Prop where
 eq:decodeL l=(c,n)
 le:n≤l.length
 pos:1≤n
 one:n=1→gb l 0<128∧c=gb l 0
 high:2≤n→∀ b,b∈l.take n→128≤b.toNat
 rune:yo c=l.take n
 valid:c<55296∨(57344≤c∧c≤1114111)
 more:∀ x,decodeL (l.take n++x)=(c,n)
theorem vE (B:l≠[])(h:¬((decodeL l).1=65533∧(decodeL l).2=1)):Kr l (decodeL l).1 (decodeL l).2:=by
 have m:1≤l.length:=by cases l with | nil=>exact absurd rfl B | cons a t=>simp
 have d:1≤(decodeL l).2→(decodeL l).2≤l.length→∀ x,decodeL (l.take (decodeL l).2++x)=decodeL l:=by
  intro L J x
  have A:(l.take (decodeL l).2).length=(decodeL l).2:=by rw [List.length_take];omega
  have f:∀ i,i<(decodeL l).2→gb (l.take (decodeL l).2++x) i=gb l i:=fun i H=>by
   rw [gb_app _ x i Ws]
   unfold gb
   rw [List.getD_eq_getElem?_getD,List.getD_eq_getElem?_getD,List.getElem?_take_of_lt H]
  revert A f
  generalize e:l.take (decodeL l).2++x=y
  intro A f
  have z:(decodeL l).2≤y.length:=by rw [← e,List.length_append];omega
  rw [qJ y,f 0 Ws]
  rw [qJ l] at h f z ⊢
  exact decodeN_more m z (Z5 _ _) (Z5 _ _) (Z5 _ _) (Z5 _ _) h (fun q=>f 1 q) (fun q=>f 2 q) (fun q=>f 3 q)
 have b0:l.getD 0 0=UInt8.ofNat (gb l 0):=(UInt8.ofNat_toNat).symm
 have b1:l.getD 1 0=UInt8.ofNat (gb l 1):=(UInt8.ofNat_toNat).symm
 have b2:l.getD 2 0=UInt8.ofNat (gb l 2):=(UInt8.ofNat_toNat).symm
 have b3:l.getD 3 0=UInt8.ofNat (gb l 3):=(UInt8.ofNat_toNat).symm
 have p:(l.getD 0 0).toNat=gb l 0:=rfl
 have n:(l.getD 1 0).toNat=gb l 1:=rfl
 have v:(l.getD 2 0).toNat=gb l 2:=rfl
 have G:(l.getD 3 0).toNat=gb l 3:=rfl
 have l0:=Z5 l 0
 have E:=Z5 l 1
 have D:=Z5 l 2
 have F:=Z5 l 3
 have u:=h
 rw [qJ] at u
 rcases zbI m E D F l0 u with ⟨k,e⟩ | ⟨k,r,j,w,s,e⟩ | ⟨k,r,j,w,s,C,I,e⟩ | ⟨k,r,j,w,s,C,I,K,e⟩
 all_goals
  rw [← qJ] at e
  rw [e] at d ⊢
  simp only at d ⊢
 ·refine⟨e,m,XA,fun _=>⟨k,rfl⟩,fun h=>by omega,?_,Ws,d Ws Ws⟩
  rw [qP _ Ws,if_pos k]
  cases l with
  | nil=>exact absurd rfl B
  | cons a t=>simp [gb]
 ·refine⟨e,j,Ws,fun h=>by omega,fun _ b f=>?_,?_,Ws,d Ws Ws⟩
  ·rw [take_two j] at f
   simp only [List.mem_cons,List.not_mem_nil,or_false] at f
   rcases f with rfl | rfl
   ·rw [p];omega
   ·rw [n];omega
  ·rw [qP _ Ws,if_neg Ws,if_pos Ws,take_two j,b0,b1]
   congr 2 <;> congr 1 <;> omega
 ·refine⟨e,j,Ws,fun h=>by omega,fun _ b f=>?_,?_,Ws,d Ws Ws⟩
  ·rw [zaO j] at f
   simp only [List.mem_cons,List.not_mem_nil,or_false] at f
   rcases f with rfl | rfl | rfl
   ·rw [p];omega
   ·rw [n];omega
   ·rw [v];omega
  ·rw [qP _ Ws,if_neg Ws,if_neg Ws,if_pos Ws,zaO j,b0,b1,b2]
   congr 1
   ·congr 1;omega
   ·congr 1
    ·congr 1;omega
    ·congr 1;congr 1;omega
 ·refine⟨e,j,Ws,fun h=>by omega,fun _ b f=>?_,?_,Ws,d Ws Ws⟩
  ·rw [take_four j] at f
   simp only [List.mem_cons,List.not_mem_nil,or_false] at f
   rcases f with rfl | rfl | rfl | rfl
   ·rw [p];omega
   ·rw [n];omega
   ·rw [v];omega
   ·rw [G];omega
  ·rw [qP _ Ws,if_neg Ws,if_neg Ws,if_neg Ws,take_four j,b0,b1,b2,b3]
   congr 1
   ·congr 1;omega
   ·congr 1
    ·congr 1;omega
    ·congr 1
     ·congr 1;omega
     ·congr 1;congr 1;omega
open Go.Lib (decodeL decDigits itoa)
theorem validS (h:Lib.validD l=true)(a:l≠[]):Kr l (decodeL l).1 (decodeL l).2∧Lib.validD (l.drop (decodeL l).2)=true:=by
 rw [Lib.validD_step l a] at h
 split at h
 ·cases h
 ·rename_i hc;exact⟨vE a hc,h⟩
theorem quote_high (h:128≤b.toNat):yp b=[b]:=by
 unfold yp
 rw [if_neg Ws,if_neg]
 rintro (e | e) <;> (rw [e] at h;revert h;decide)
theorem J8:∀ {l:List UInt8},(∀ b,b∈l→128≤b.toNat)→l.flatMap yp=l
 | [],_=>rfl
 | b::l,h=>by
  rw [List.flatMap_cons,quote_high (h b (List.mem_cons_self ..)),J8 (fun x hx=>h x (List.mem_cons_of_mem _ hx))]
  rfl
theorem unq_end (f:Nat)(r acc:List UInt8):xW (f+1) (34::r) acc = .inr (acc,r):=by
 unfold xW
 exact if_pos rfl
theorem unq_esc {n:Nat}{b:List UInt8}(h:bo (92::r)=some (b,n)):xW (f+1) (92::r) acc=xW f ((92::r).drop n) (acc++b):=by
 rw [xW]
 rw [if_neg Wo,if_neg Wo,if_pos rfl,h]
theorem unq_plain {k v:Nat}{c:UInt8}(b:c≠34)(h2:¬ c.toNat<32)(h3:c≠92)(hd:decodeL (c::r)=(v,k))(a:¬ (v=65533∧k=1)) : xW (f+1) (c::r) acc=xW f ((c::r).drop k) (acc++(c::r).take k):=by
 rw [xW]
 rw [if_neg b,if_neg h2,if_neg h3,hd]
 exact if_neg a
theorem hex_ctl:∀ n:Fin 32,hex4 48 48 (vD (n.val/16)) (vD (n.val%16))=some n.val:=by decide +kernel
theorem esc_ctl (b:UInt8)(h:b.toNat<32)(r:List UInt8):bo (92::117::48::48::vD (b.toNat/16)::vD (b.toNat%16)::r)=some ([b],6):=by
 have d:jf (92::117::48::48::vD (b.toNat/16)::vD (b.toNat%16)::r)=some b.toNat:=by
  unfold jf
  simp only
  rw [if_pos ⟨trivial,trivial⟩]
  exact hex_ctl ⟨b.toNat,h⟩
 have a:yo b.toNat=[b]:=by
  rw [qP _ Ws,if_pos Ws,UInt8.ofNat_toNat]
 unfold bo
 simp only
 rw [if_neg Wo,if_neg Wo,if_neg Wo,if_neg Wo,if_neg Wo,if_neg Wo,if_neg Wo,if_neg Wo,d]
 simp only
 rw [if_pos Ws,a]
theorem esc_sign (b:UInt8)(h:b=34∨b=92)(r:List UInt8):bo (92::b::r)=some ([b],2):=by
 unfold bo
 rcases h with rfl | rfl
 ·exact if_pos rfl
 ·exact (if_neg Wo).trans (if_pos rfl)
theorem QF (l x:List UInt8)(k:Nat)(h:k≤l.length):(l.take k++x).drop k=x∧(l.take k++x).take k=l.take k:=by
 have e:(l.take k).length=k:=by rw [List.length_take];omega
 constructor
 ·exact List.drop_left' e
 ·exact List.take_left' e
theorem unq_quote:∀ (n:Nat) (s:List UInt8) (f:Nat) (rest acc:List UInt8),s.length≤n→Lib.validD s=true→(s.flatMap yp).length<f→xW f (s.flatMap yp++(34::rest)) acc = .inr (acc++s,rest):=by
 intro n
 induction n with
 | zero=>
  intro s f rest acc G _ d
  match s,G with
  | [],_=>
   match f,d with
   | f+1,_=>rw [List.append_nil];exact unq_end f rest acc
 | succ n ih=>
  intro s f rest acc G hv d
  by_cases l:s=[]
  ·subst l
   match f,d with
   | f+1,_=>rw [List.append_nil];exact unq_end f rest acc
  obtain⟨D,p⟩:=validS hv l
  revert D p
  generalize (decodeL s).1=v
  generalize (decodeL s).2=k
  intro D p
  have M:=D.pos
  have x:=D.le
  have H:s=s.take k++s.drop k:=(List.take_append_drop k s).symm
  have w:s.flatMap yp=(s.take k).flatMap yp++(s.drop k).flatMap yp:=by rw [← List.flatMap_append,List.take_append_drop]
  rw [w] at d ⊢
  rw [List.append_assoc]
  rw [List.length_append] at d
  have A:(s.drop k).length≤n:=by rw [List.length_drop];omega
  have a:=fun (f':Nat) (hf':((s.drop k).flatMap yp).length<f') (acc':List UInt8)=>ih (s.drop k) f' rest acc' A p hf'
  revert d a
  generalize (s.drop k).flatMap yp=q
  intro d a
  have h:∀ acc:List UInt8,acc++s.take k++s.drop k=acc++s:=fun acc=>by rw [List.append_assoc,List.take_append_drop]
  match f,d with
  | f+1,d=>
  by_cases L:k=1
  ·subst L
   obtain⟨J,C⟩:=D.one rfl
   match s,l with
   | b::t,_=>
    have I:b.toNat<128:=J
    have K:(b::t).take 1=[b]:=rfl
    have hm:=D.more (q++34::rest)
    rw [K] at hm d h ⊢
    simp only [List.flatMap_cons,List.flatMap_nil,List.append_nil] at d ⊢
    unfold yp at d ⊢
    split at d
    ·rename_i hc
     rw [if_pos hc]
     show xW (f+1) (92::117::48::48::vD (b.toNat/16)::vD (b.toNat%16)::(q++34::rest)) acc=_
     rw [unq_esc (esc_ctl b hc _)]
     show xW f (q++34::rest) (acc++[b])=_
     rw [a f (by simp at d;omega),h]
    ·rename_i hc
     rw [if_neg hc]
     split at d
     ·rename_i hd
      rw [if_pos hd]
      show xW (f+1) (92::b::(q++34::rest)) acc=_
      rw [unq_esc (esc_sign b hd _)]
      show xW f (q++34::rest) (acc++[b])=_
      rw [a f (by simp at d;omega),h]
     ·rename_i hd
      rw [if_neg hd]
      show xW (f+1) (b::(q++34::rest)) acc=_
      have B:decodeL (b::(q++34::rest))=(v,1):=hm
      rw [unq_plain (fun e=>hd (.inl e)) hc (fun e=>hd (.inr e)) B (by
       have:v=b.toNat:=C
       omega)]
      show xW f (q++34::rest) (acc++[b])=_
      rw [a f (by simp at d;omega),h]
  ·have E:2≤k:=by omega
   have z:=D.high E
   rw [J8 z] at d ⊢
   have hm:=D.more (q++34::rest)
   obtain⟨m,u⟩:=QF s (q++34::rest) k x
   have i:(s.take k).length=k:=by rw [List.length_take];omega
   obtain⟨y,F⟩:∃ y,s.take k=y:=⟨_,rfl⟩
   rw [F] at z d hm m u i ⊢
   have j:=h acc
   rw [F] at j
   clear h H w
   match y,i with
   | c::r,i=>
    have hc:=z c (List.mem_cons_self ..)
    rw [List.cons_append] at hm m u ⊢
    rw [unq_plain (by intro e;rw [e] at hc;revert hc;decide) Ws (by intro e;rw [e] at hc;revert hc;decide) hm Ws,m,u]
    rw [a f (by simp at d;omega),j]
   | [],i=>simp at i;omega
theorem zaE (s rest:List UInt8)(h:Lib.validD s=true):kH (yH s++rest) = .inr (s,rest):=by
 have e:yH s++rest=34::(s.flatMap yp++(34::rest)):=by simp [yH]
 rw [e]
 unfold kH
 simp only
 rw [if_pos trivial]
 have:=unq_quote s.length s ((s.flatMap yp++(34::rest)).length+1) rest [] (XA) h (by rw [List.length_append];omega)
 rw [this,List.nil_append]
def Ends (r:List UInt8):Prop:=r=[]∨∃ c t,r=c::t∧(c=44∨c=93∨c=125)
theorem isDig_of (d:Nat)(h:d<10):xz (UInt8.ofNat (48+d))=true∧(UInt8.ofNat (48+d)).toNat=48+d:=by
 have e:(UInt8.ofNat (48+d)).toNat=48+d:=by rw [UInt8.toNat_ofNat'];omega
 refine⟨?_,e⟩
 unfold xz
 rw [e,Bool.and_eq_true]
 exact⟨decide_eq_true Ws,decide_eq_true Ws⟩
theorem digSum_snoc (l:List UInt8)(c:UInt8):zQ (l++[c])=10*zQ l+(c.toNat-48):=by
 unfold zQ
 rw [List.foldl_append]
 rfl
theorem JP (u:Nat):zQ (decDigits u)=u∧(∀ c,c∈decDigits u→xz c=true)∧∃ d t,decDigits u=d::t∧(d=48→t=[]∧u=0):=by
 induction u using Nat.strongRecOn with
 | _ u ih=>
  rw [decDigits]
  split
  ·rename_i h
   obtain⟨a,h2⟩:=isDig_of u h
   refine⟨?_,fun c hc=>?_,_,_,rfl,fun e=>⟨rfl,?_⟩⟩
   ·show 10*0+((UInt8.ofNat (48+u)).toNat-48)=u
    omega
   ·rw [List.mem_singleton.1 hc];exact a
   ·rw [e] at h2
    have:(48:UInt8).toNat=48:=rfl
    omega
  ·rename_i h
   obtain⟨f,j,d,t,i,b⟩:=ih (u/10) Ws
   obtain⟨a,h2⟩:=isDig_of (u%10) Ws
   refine⟨?_,fun c hc=>?_,d,t++[UInt8.ofNat (48+u%10)],by rw [i];rfl,fun e=>?_⟩
   ·rw [digSum_snoc,f,h2];omega
   ·rcases List.mem_append.1 hc with hc | hc
    ·exact j c hc
    ·rw [List.mem_singleton.1 hc];exact a
   ·have:=(b e).2
    omega
theorem dig_ends (h:Ends r):r.takeWhile xz=[]∧vq r [46,101,69]=false:=by
 rcases h with rfl | ⟨c,t,rfl,rfl | rfl | rfl⟩ <;> exact⟨rfl,rfl⟩
theorem num_body (a:Bool)(u:Nat)(r:List UInt8)(h:Ends r)(n:u≤9007199254740991)(hm:a=true→u≠0):jB a (decDigits u++r) = .inr (if a then -(u:Int) else u,r):=by
 obtain⟨m,h2,d,t,h3,l⟩:=JP u
 obtain⟨f,b⟩:=dig_ends h
 have i:(decDigits u++r).takeWhile xz=decDigits u:=by
  rw [List.takeWhile_append_of_pos h2,f,List.append_nil]
 unfold jB
 simp only [i]
 rw [if_neg,List.drop_left,b,if_neg Wo,if_neg Ws,m]
 rintro (e | ⟨f,b⟩)
 ·rw [h3] at e;cases e
 ·rw [h3] at f b
  have hd:d=48:=by simpa using f
  obtain⟨j,k⟩:=l hd
  rcases b with b | b
  ·exact hm b k
  ·rw [j] at b;simp at b
theorem num_write (n:Int)(h:-9007199254740991≤n∧n≤9007199254740991)(r:List UInt8)(a:Ends r):jE (itoa n++r) = .inr (n,r):=by
 unfold itoa jE
 by_cases b:n<0
 ·rw [if_pos b]
  show (if some (45:UInt8)=some 45 then jB true (decDigits n.natAbs++r) else _)=_
  rw [if_pos rfl,num_body true _ r a Ws (fun _=>by omega)]
  simp only [if_true]
  congr 2
  omega
 ·rw [if_neg b]
  obtain⟨_,h2,d,t,h3,_⟩:=JP n.toNat
  have hd:=h2 d (by rw [h3];exact List.mem_cons_self ..)
  have:¬ (decDigits n.toNat++r).head? = some 45:=by
   rw [h3]
   intro e
   have e':d=45:=by simpa using e
   rw [e'] at hd
   revert hd;decide
  rw [if_neg this,num_body false _ r a Ws (fun h=>by cases h)]
  simp only [Bool.false_eq_true,if_false]
  congr 2
  omega
theorem JK (n:Int):∃ d t,itoa n=d::t∧(d=45∨xz d=true):=by
 unfold itoa
 split
 ·exact⟨_,_,rfl,.inl rfl⟩
 ·obtain⟨_,h2,d,t,h3,_⟩:=JP n.toNat
  exact⟨d,t,h3,.inr (h2 d (by rw [h3];exact List.mem_cons_self ..))⟩
theorem xe {a:UInt8}(h:a≠b)(l t:List UInt8):(a::l).isPrefixOf (b::t)=false:=by
 simp [List.isPrefixOf,h]
theorem kz {c:UInt8}(t:List UInt8)(h:Zt c=false):zu (c::t)=c::t:=by
 unfold zu
 exact List.dropWhile_cons_of_neg (by rw [h];decide)
theorem Ends.skip (h:Ends r):zu r=r:=by
 rcases h with rfl | ⟨c,t,rfl,rfl | rfl | rfl⟩
 ·rfl
 ·exact kz _ Wo
 ·exact kz _ Wo
 ·exact kz _ Wo
theorem dig_cases {c:UInt8}(h:xz c=true):c=48∨c=49∨c=50∨c=51∨c=52∨c=53∨c=54∨c=55∨c=56∨c=57:=by
 unfold xz at h
 rw [Bool.and_eq_true] at h
 have a:=of_decide_eq_true h.1
 have h2:=of_decide_eq_true h.2
 have e:c=UInt8.ofNat c.toNat:=UInt8.ofNat_toNat.symm
 have:c.toNat=48∨c.toNat=49∨c.toNat=50∨c.toNat=51∨c.toNat=52∨c.toNat=53∨c.toNat=54∨c.toNat=55∨c.toNat=56∨c.toNat=57:=Ws
 rcases this with h | h | h | h | h | h | h | h | h | h <;> (rw [h] at e;subst e;decide)
def Starts (c:UInt8):Prop:=c=110∨c=116∨c=102∨c=34∨c=91∨c=123∨c=45∨xz c=true
theorem Starts.not {c:UInt8}(h:Starts c):Zt c=false∧c≠93∧c≠125:=by
 rcases h with rfl | rfl | rfl | rfl | rfl | rfl | rfl | h
 all_goals first | exact⟨Wo,Wo,Wo⟩ | skip
 rcases dig_cases h with rfl | rfl | rfl | rfl | rfl | rfl | rfl | rfl | rfl | rfl <;> exact⟨Wo,Wo,Wo⟩
section
variable {n : Nat}
theorem K4 (v:VS (V n)):zr (n+1) v=if v.kind=1 then [110,117,108,108] else if v.kind=2 then (if v.num=1 then [116,114,117,101] else [102,97,108,115,101]) else if v.kind=3 then itoa v.num else if v.kind=4 then yH v.s.data.toList else if v.kind=5 then 91::(zX (v.l.map (zr n))++[93]) else 123::(zX (v.m.map (fun p=>yH p.1.data.toList++(58::zr n p.2)))++[125]):=rfl
theorem zbw (v:VS (V n)):∃ c t,zr (n+1) v=c::t∧Starts c:=by
 rw [K4]
 split
 ·exact⟨_,_,rfl,.inl rfl⟩
 split
 ·split
  ·exact⟨_,_,rfl,.inr (.inl rfl)⟩
  ·exact⟨_,_,rfl,.inr (.inr (.inl rfl))⟩
 split
 ·obtain⟨d,t,h,hd | hd⟩:=JK v.num
  ·exact⟨d,t,h,hd ▸ .inr (.inr (.inr (.inr (.inr (.inr (.inl rfl))))))⟩
  ·exact⟨d,t,h,.inr (.inr (.inr (.inr (.inr (.inr (.inr hd))))))⟩
 split
 ·exact⟨_,_,rfl,.inr (.inr (.inr (.inl rfl)))⟩
 split
 ·exact⟨_,_,rfl,.inr (.inr (.inr (.inr (.inl rfl))))⟩
 ·exact⟨_,_,rfl,.inr (.inr (.inr (.inr (.inr (.inl rfl)))))⟩
theorem write_head':∀ {n:Nat}(v:V n),∃ c t,zr n v=c::t∧Starts c
 | 0,v=>nomatch v
 | _+1,v=>zbw v
end
theorem bB (x:List UInt8)(l:List (List UInt8))(r:List UInt8)(e:UInt8):zX (x::l)++(e::r)=x++(match l with | []=>e::r | y::l=>44::(zX (y::l)++(e::r))):=by
 cases l with
 | nil=>rfl
 | cons y l=>simp [zX]
theorem QI (l:List (List UInt8)):l.length≤(zX l).length+1:=by
 induction l with
 | nil=>exact XB
 | cons x l ih=>
  cases l with
  | nil=>simp
  | cons y l=>
   show (y::l).length+1≤(x++(44::zX (y::l))).length+1
   have e:((44:UInt8)::zX (y::l)).length=(zX (y::l)).length+1:=rfl
   rw [List.length_append,e]
   omega
def Reads {α:Type}(sub:List UInt8→Nat→Sum Int (α×List UInt8×Nat))(w:α→List UInt8)(k:α→Nat)(v:α):Prop:=
 ∀ r c,Ends r→c+k v≤4096→sub (w v++r) c = .inr (v,r,c+k v)
theorem read_list {α:Type}{sub:List UInt8→Nat→Sum Int (α×List UInt8×Nat)}{w:α→List UInt8}{k:α→Nat}:∀ (l:List α) (x:α) (f c:Nat) (acc:List α) (r:List UInt8), (∀ y,y∈x::l→Reads sub w k y)→l.length<f→c+((x::l).map k).sum≤4096→ZZ sub f (zX ((x::l).map w)++(93::r)) c acc = .inr (acc++x::l,r,c+((x::l).map k).sum):=by
 intro l
 induction l with
 | nil=>
  intro x f c acc r h a hc
  match f,a with
  | f+1,_=>
  have:=h x (List.mem_cons_self ..) (93::r) c (.inr ⟨_,_,rfl,.inr (.inl rfl)⟩) (by simpa using hc)
  show ZZ sub (f+1) (w x++(93::r)) c acc=_
  unfold ZZ
  rw [this]
  simp
 | cons y l ih=>
  intro x f c acc r h a hc
  match f,a with
  | f+1,a=>
  rw [List.map_cons,List.sum_cons] at hc
  have b:=h x (List.mem_cons_self ..) (44::(zX ((y::l).map w)++(93::r))) c (.inr ⟨_,_,rfl,.inl rfl⟩) Ws
  have e:zX ((x::y::l).map w)++(93::r)=w x++(44::(zX ((y::l).map w)++(93::r))):=bB ..
  rw [e]
  unfold ZZ
  rw [b]
  simp only [List.head?_cons,List.tail_cons]
  rw [if_neg Wo,if_pos trivial,ih y f (c+k x) (acc++[x]) r (fun z d=>h z (List.mem_cons_of_mem _ d)) (by simp at a;omega) Ws]
  have i:(acc++[x])++y::l=acc++x::y::l:=Wz
  have a2:c+k x+((y::l).map k).sum=c+((x::y::l).map k).sum:=by simp only [List.map_cons,List.sum_cons];omega
  rw [i,a2]
def jL {α:Type}(w:α→List UInt8)(p:ByteArray×α):List UInt8:=yH p.1.data.toList++(58::w p.2)
theorem read_key {s:ByteArray}(h:zw s=true)(r:List UInt8):kH (zu (yH s.data.toList++r)) = .inr (s.data.toList,r):=by
 have e:yH s.data.toList++r=34::((s.data.toList.flatMap yp++[34])++r):=rfl
 rw [e,kz _ Wo,← e]
 exact zaE _ _ h
theorem read_pairs {α:Type}{sub:List UInt8→Nat→Sum Int (α×List UInt8×Nat)}{w:α→List UInt8}{k:α→Nat}:∀ (l:List (ByteArray×α)) (x:ByteArray×α) (f c:Nat) (acc:List (ByteArray×α)) (r:List UInt8), (∀ y,y∈x::l→Reads sub w k y.2∧zw y.1=true)→((acc++x::l).map (fun p=>p.1)).Nodup→l.length<f→c+((x::l).map (fun p=>k p.2)).sum≤4096→bi sub f (zX ((x::l).map (jL w))++(125::r)) c acc = .inr (acc++x::l,r,c+((x::l).map (fun p=>k p.2)).sum):=by
 intro l
 induction l with
 | nil=>
  intro x f c acc r h d i hc
  match f,i with
  | f+1,_=>
  obtain⟨m,h2⟩:=h x (List.mem_cons_self ..)
  have j:=m (125::r) c (.inr ⟨_,_,rfl,.inr (.inr rfl)⟩) (by simpa using hc)
  have e:zX ([x].map (jL w))++(125::r)=yH x.1.data.toList++(58::(w x.2++(125::r))):=by simp [zX,jL]
  have a:acc.any (fun p=>decide (p.1=zx x.1.data.toList))=false:=by
   rw [List.any_eq_false]
   intro p hp b
   have b:=of_decide_eq_true b
   rw [Kw] at b
   rw [List.map_append,List.nodup_append] at d
   exact d.2.2 p.1 (List.mem_map.2 ⟨p,hp,rfl⟩) x.1 Wz b
  rw [e]
  unfold bi
  rw [read_key h2]
  simp only
  rw [a,if_neg Wo,kz _ Wo]
  simp only [List.head?_cons,List.tail_cons]
  rw [if_pos trivial,j]
  simp only [List.head?_cons,List.tail_cons]
  rw [if_pos trivial,Kw]
  simp
 | cons y l ih=>
  intro x f c acc r h d i hc
  match f,i with
  | f+1,i=>
  obtain⟨m,h2⟩:=h x (List.mem_cons_self ..)
  rw [List.map_cons,List.sum_cons] at hc
  have j:=m (44::(zX ((y::l).map (jL w))++(125::r))) c (.inr ⟨_,_,rfl,.inl rfl⟩) Ws
  have e:zX ((x::y::l).map (jL w))++(125::r)=yH x.1.data.toList++(58::(w x.2++(44::(zX ((y::l).map (jL w))++(125::r))))):=by
   rw [List.map_cons,bB]
   unfold jL
   rw [List.append_assoc,List.cons_append]
   rfl
  have a:acc.any (fun p=>decide (p.1=zx x.1.data.toList))=false:=by
   rw [List.any_eq_false]
   intro p hp b
   have b:=of_decide_eq_true b
   rw [Kw] at b
   rw [List.map_append,List.nodup_append] at d
   exact d.2.2 p.1 (List.mem_map.2 ⟨p,hp,rfl⟩) x.1 Wz b
  rw [e]
  unfold bi
  rw [read_key h2]
  simp only
  rw [a,if_neg Wo,kz _ Wo]
  simp only [List.head?_cons,List.tail_cons]
  rw [if_pos trivial,j]
  simp only [List.head?_cons,List.tail_cons]
  rw [if_neg Wo,if_pos trivial,Kw]
  rw [ih y f (c+k x.2) (acc++[x]) r (fun z q=>h z (List.mem_cons_of_mem _ q)) (by rw [List.append_assoc];exact d) (by simp at i;omega) Ws]
  have n:(acc++[x])++y::l=acc++x::y::l:=Wz
  have a2:c+k x.2+((y::l).map (fun p=>k p.2)).sum=c+((x::y::l).map (fun p=>k p.2)).sum:=by simp only [List.map_cons,List.sum_cons];omega
  rw [n,a2]
section
variable {α : Type} {sub : List UInt8 → Nat → Sum Int (α × List UInt8 × Nat)}
theorem pRead_list {t r:List UInt8}{c a:Nat}{l:List α}(h:¬ (zu t).head? = some 93)(hp:ZZ sub ((91::t).length+1) (zu t) c [] = .inr (l,r,a)):xA sub (91::t) c = .inr (⟨5,0,⟨#[]⟩,l,[]⟩,r,a):=by
 unfold xA Zh Zb jY
 rw [xe Wo,xe Wo,xe Wo,if_neg Wo,if_neg Wo,if_neg Wo,List.head?_cons,if_neg Wo,if_pos rfl,List.tail_cons,if_neg h,hp]
theorem pRead_pairs {t r:List UInt8}{c a:Nat}{m:List (ByteArray×α)}(h:¬ (zu t).head? = some 125)(hp:bi sub ((123::t).length+1) (zu t) c [] = .inr (m,r,a)):xA sub (123::t) c = .inr (⟨6,0,⟨#[]⟩,[],m⟩,r,a):=by
 unfold xA Zh Zb jY
 rw [xe Wo,xe Wo,xe Wo,if_neg Wo,if_neg Wo,if_neg Wo,List.head?_cons,if_neg Wo,if_neg Wo,if_pos rfl,List.tail_cons,if_neg h,hp]
theorem pRead_text {t:List UInt8}{c:Nat}{s r:List UInt8}(hp:kH (34::t) = .inr (s,r)):xA sub (34::t) c = .inr (leaf 4 0 (zx s),r,c):=by
 unfold xA Zh Zb jY
 rw [xe Wo,xe Wo,xe Wo,if_neg Wo,if_neg Wo,if_neg Wo,List.head?_cons,if_pos rfl,hp]
end
theorem kids_le {n:Nat}{v:VS (V n)}{c B:Nat}(h:c+zq (n+1) v≤B):(c+1)+(v.l.map (zq n)).sum≤B∧(c+1)+(v.m.map (fun p=>zq n p.2)).sum≤B:=by
 have e:zq (n+1) v=1+(v.kids.map (zq n)).sum:=rfl
 rw [jn] at e
 omega
theorem zaA:∀ (n:Nat) (v:V n),zo n v=true→Reads (zy n) (zr n) (zq n) v
 | 0,v,_=>nomatch v
 | n+1,(v:VS (V n)),h=>by
  intro r c hr hc
  obtain⟨b,t,hbt,hb⟩:=zbw v
  have P:=jR h
  have K:=fun x (B:x∈v.kids)=>zaA n x (jg h B)
  have a:zq (n+1) v=1+((v.l.map (zq n)).sum+(v.m.map (fun p=>zq n p.2)).sum):=by rw [← jn];rfl
  have w:zu (zr (n+1) v++r)=zr (n+1) v++r:=by
   rw [hbt];exact kz _ hb.not.1
  have u:xA (zy n) (zr (n+1) v++r) (c+1) = .inr (v,r,c+zq (n+1) v)∧xN (zr (n+1) v++r)=true:=by
   rw [K4]
   rcases jM P with ⟨i,h2,h3,j,f⟩ | ⟨i,h2,h3,j,f⟩ | ⟨i,h2,h3,j,f⟩ | ⟨i,h2,h3,j,f⟩ | ⟨i,h2,h3,f⟩ | ⟨i,h2,h3,j,f⟩
   ·rw [if_pos i]
    have e:c+zq (n+1) v=c+1:=by rw [a,j,f];rfl
    have k:v=leaf 1 0 ⟨#[]⟩:=VS.ext' i h2 h3 j f
    rw [e,k]
    exact⟨rfl,rfl⟩
   ·rw [if_neg Ws,if_pos i]
    have e:c+zq (n+1) v=c+1:=by rw [a,j,f];rfl
    rw [e]
    rcases h2 with h2 | h2
    ·have k:v=leaf 2 0 ⟨#[]⟩:=VS.ext' i h2 h3 j f
     rw [if_neg Ws,k]
     exact⟨rfl,rfl⟩
    ·have k:v=leaf 2 1 ⟨#[]⟩:=VS.ext' i h2 h3 j f
     rw [if_pos h2,k]
     exact⟨rfl,rfl⟩
   ·rw [if_neg Ws,if_neg Ws,if_pos i]
    have e:c+zq (n+1) v=c+1:=by rw [a,j,f];rfl
    have k:v=leaf 3 v.num ⟨#[]⟩:=VS.ext' i rfl h3 j f
    have F:=num_write v.num h2 r hr
    rw [e]
    obtain⟨d,t,hd,G⟩:=JK v.num
    have H:d=45∨d=48∨d=49∨d=50∨d=51∨d=52∨d=53∨d=54∨d=55∨d=56∨d=57:=G.imp_right dig_cases
    generalize v.num=m at *
    rw [k]
    rw [hd] at F ⊢
    rw [List.cons_append] at F ⊢
    have Y:d≠110∧d≠116∧d≠102∧d≠34∧d≠91∧d≠123∧vq (d::(t++r)) [34,91,123,45,48,49,50,51,52,53,54,55,56,57]=true:=by
     rcases H with rfl | rfl | rfl | rfl | rfl | rfl | rfl | rfl | rfl | rfl | rfl <;> exact⟨Wo,Wo,Wo,Wo,Wo,Wo,rfl⟩
    obtain⟨O,Q,X,R,M,W,U⟩:=Y
    constructor
    ·unfold xA Zh Zb jY
     rw [xe O.symm,xe Q.symm,xe X.symm,if_neg Wo,if_neg Wo,if_neg Wo,if_neg,if_neg,if_neg,F]
     ·intro e;exact W (by simpa using e)
     ·intro e;exact M (by simpa using e)
     ·intro e;exact R (by simpa using e)
    ·unfold xN
     rw [U,Bool.or_true]
   ·rw [if_neg Ws,if_neg Ws,if_neg Ws,if_pos i]
    have e:c+zq (n+1) v=c+1:=by rw [a,j,f];rfl
    have k:v=leaf 4 0 v.s:=VS.ext' i h2 rfl j f
    have L:=zaE v.s.data.toList r h3
    have N:=Kw v.s
    rw [e]
    generalize v.s=s at *
    rw [k]
    have A:yH s.data.toList++r=34::((s.data.toList.flatMap yp++[34])++r):=rfl
    constructor
    ·rw [A] at L ⊢
     rw [pRead_text L,N]
    ·rw [A]
     rfl
   ·rw [if_neg Ws,if_neg Ws,if_neg Ws,if_neg Ws,if_pos i]
    have J:∀ x,x∈v.l→Reads (zy n) (zr n) (zq n) x:=fun x B=>K x (je B)
    have z:=(kids_le hc).1
    have e:c+zq (n+1) v=c+1+(v.l.map (zq n)).sum:=by rw [a,f];simp;omega
    have k:v=⟨5,0,⟨#[]⟩,v.l,[]⟩:=VS.ext' i h2 h3 rfl f
    rw [e]
    generalize v.l=l at *
    rw [k]
    refine⟨?_,rfl⟩
    have A:91::(zX (l.map (zr n))++[93])++r=91::(zX (l.map (zr n))++(93::r)):=Wz
    rw [A]
    cases l with
    | nil=>rfl
    | cons x l=>
     obtain⟨b,t,hbt,hb⟩:=write_head' x
     have C:zX ((x::l).map (zr n))++(93::r)=b::(t++(match l.map (zr n) with | []=>93::r | y::l=>44::(zX (y::l)++(93::r)))):=by
      rw [List.map_cons,bB,hbt];rfl
     have D:zu (zX ((x::l).map (zr n))++(93::r))=zX ((x::l).map (zr n))++(93::r):=by
      rw [C];exact kz _ hb.not.1
     have E:¬ (zX ((x::l).map (zr n))++(93::r)).head? = some 93:=by
      rw [C];intro q;exact hb.not.2.1 (by simpa using q)
     refine pRead_list (by rw [D];exact E) ?_
     rw [D]
     refine (read_list l x _ (c+1) [] r J ?_ z).trans rfl
     ·have:=QI ((x::l).map (zr n))
      rw [List.length_map,List.length_cons] at this
      rw [List.length_cons,List.length_append,List.length_cons]
      omega
   ·rw [if_neg Ws,if_neg Ws,if_neg Ws,if_neg Ws,if_neg Ws]
    unfold yV at f
    rw [Bool.and_eq_true] at f
    have J:∀ x,x∈v.m→Reads (zy n) (zr n) (zq n) x.2∧zw x.1=true:=fun x B=>⟨K x.2 (kN B),List.all_eq_true.1 f.1 x B⟩
    have I:=of_decide_eq_true f.2
    have z:=(kids_le hc).2
    have e:c+zq (n+1) v=c+1+(v.m.map (fun p=>zq n p.2)).sum:=by rw [a,j];simp;omega
    have k:v=⟨6,0,⟨#[]⟩,[],v.m⟩:=VS.ext' i h2 h3 j rfl
    rw [e]
    generalize v.m=l at *
    rw [k]
    refine⟨?_,rfl⟩
    have A:123::(zX (l.map (fun p=>yH p.1.data.toList++(58::zr n p.2)))++[125])++r=123::(zX (l.map (jL (zr n)))++(125::r)):=by
     show 123::(zX (l.map (jL (zr n)))++[125])++r=_
     simp
    rw [A]
    cases l with
    | nil=>rfl
    | cons x l=>
     have C:zX ((x::l).map (jL (zr n)))++(125::r)=34::(((x.1.data.toList.flatMap yp++[34])++(58::zr n x.2))++(match l.map (jL (zr n)) with | []=>125::r | y::l=>44::(zX (y::l)++(125::r)))):=by
      rw [List.map_cons,bB];rfl
     have D:zu (zX ((x::l).map (jL (zr n)))++(125::r))=zX ((x::l).map (jL (zr n)))++(125::r):=by
      rw [C];exact kz _ Wo
     have E:¬ (zX ((x::l).map (jL (zr n)))++(125::r)).head? = some 125:=by
      rw [C];intro q;exact absurd (Option.some.inj q) Wo
     refine pRead_pairs (by rw [D];exact E) ?_
     rw [D]
     refine (read_pairs l x _ (c+1) [] r J (by rw [List.nil_append];exact I) ?_ z).trans rfl
     ·have:=QI ((x::l).map (jL (zr n)))
      rw [List.length_map,List.length_cons] at this
      rw [List.length_cons,List.length_append,List.length_cons]
      omega
  unfold zy
  rw [w,u.2,if_neg Wo,if_neg Ws,u.1]
  simp only
  rw [hr.skip]
theorem parse_write {v:V 12}(h:zo 12 v=true)(hc:zq 12 v≤4096)(a:(zr 12 v).length≤262144):xI (zr 12 v) = .inr v:=by
 have:=zaA 12 v h [] 0 (.inl rfl) Ws
 rw [List.append_nil] at this
 unfold xI
 rw [if_neg Ws,this]
 exact if_pos rfl
open Go.Lib (itoa)
def qj {α β:Type}(f:α→β)(p:ByteArray×α):ByteArray×β:=(p.1,f p.2)
section
variable {n : Nat}
theorem bg (v:VS (V n)):zI (n+1) v=(⟨v.kind,v.num,v.s,v.l.map (zI n),(v.m.map (qj (zI n))).mergeSort leK⟩:VS (V n)):=rfl
theorem jd (v:VS (V n)):((v.m.map (qj (zI n))).mergeSort leK).Perm (v.m.map (qj (zI n))):=List.mergeSort_perm _ _
theorem maxL_perm {a b:List Nat}(h:a.Perm b):qM a=qM b:=
 Nat.le_antisymm (bt.2 fun x d=>le_maxL (h.mem_iff.1 d)) (bt.2 fun x d=>le_maxL (h.mem_iff.2 d))
end
theorem Zy:∀ (n:Nat) (v:V n),zq n (zI n v)=zq n v
 | 0,v=>nomatch v
 | n+1,(v:VS (V n))=>by
  have ih:=Zy n;have e:∀ u:VS (V n),zq (n+1) u=1+((u.l.map (zq n)).sum+(u.m.map (fun p=>zq n p.2)).sum):=fun u=>by rw [← jn];rfl
  rw [e v];rw [bg];rw [e];simp only;have h:=((jd v).map (fun p=>zq n p.2)).sum_nat;rw [h];simp only [List.map_map,Function.comp_def,qj,ih]
theorem QW:∀ (n:Nat) (v:V n),zT n (zI n v)=zT n v
 | 0,v=>nomatch v
 | n+1,(v:VS (V n))=>by
  have ih:=QW n;have e:∀ u:VS (V n),zT (n+1) u=u.s.size+(u.m.map (fun p=>p.1.size)).sum+((u.l.map (zT n)).sum+(u.m.map (fun p=>zT n p.2)).sum):=fun u=>by rw [← jn];rfl
  rw [e v];rw [bg];rw [e];simp only;have h:=((jd v).map (fun p=>zT n p.2)).sum_nat;have h2:=((jd v).map (fun p=>p.1.size)).sum_nat;rw [h,h2];simp only [List.map_map,Function.comp_def,qj,ih]
theorem zbm:∀ (n:Nat) (v:V n),zH n (zI n v)=zH n v
 | 0,v=>nomatch v
 | n+1,(v:VS (V n))=>by
  have ih:=zbm n;have e:∀ u:VS (V n),zH (n+1) u=1+max (qM (u.l.map (zH n))) (qM (u.m.map (fun p=>zH n p.2))):=fun u=>by show 1+qM ((u.l++u.m.map (fun p=>p.2)).map (zH n))=_;rw [List.map_append,zaT,List.map_map];rfl
  rw [e v];rw [bg];rw [e];simp only;have h:=maxL_perm ((jd v).map (fun p=>zH n p.2));rw [h];simp only [List.map_map,Function.comp_def,qj,ih]
theorem own_same {α β:Type}{w:VS α}{v:VS β}(d:w.kind=v.kind)(h2:w.num=v.num)(h3:w.s=v.s)(b:w.l.isEmpty=v.l.isEmpty)(a:w.m.isEmpty=v.m.isEmpty)(h6:yV w.m=yV v.m):zE w=zE v:=by
 unfold zE;rw [d,h2,h3,b,a,h6]
theorem keys_perm {α β:Type}{a:List (ByteArray×α)}{b:List (ByteArray×β)}(h:(a.map (fun p=>p.1)).Perm (b.map (fun p=>p.1))):yV a=yV b:=by
 have e:∀ {γ:Type}(l:List (ByteArray×γ)),yV l=((l.map (fun p=>p.1)).all zw&&decide ((l.map (fun p=>p.1)).Nodup)):=fun l=>by unfold yV;rw [List.all_map];rfl
 rw [e,e,h.all_eq];congr 1;exact decide_eq_decide.2 h.nodup_iff
theorem ZI:∀ (n:Nat) (v:V n),zo n (zI n v)=zo n v
 | 0,v=>nomatch v
 | n+1,(v:VS (V n))=>by
  have ih:=ZI n;have e:∀ u:VS (V n),zo (n+1) u=(zE u&&(u.l.all (zo n)&&u.m.all (fun p=>zo n p.2))):=fun u=>by show (zE u&&(u.l++u.m.map (fun p=>p.2)).all (zo n))=_;rw [List.all_append,List.all_map];rfl
  rw [e v];rw [bg];rw [e];have a:zE (⟨v.kind,v.num,v.s,v.l.map (zI n),(v.m.map (qj (zI n))).mergeSort leK⟩:VS (V n))=zE v:=by
   refine own_same rfl rfl rfl ?_ ?_ ?_;·simp only [List.isEmpty_map]
   ·rw [Bool.eq_iff_iff];simp only [List.isEmpty_iff_length_eq_zero,List.length_mergeSort,List.length_map]
   ·refine (keys_perm ((jd v).map (fun p=>p.1))).trans ?_;unfold yV;simp only [List.all_map,List.map_map,Function.comp_def,qj]
  rw [a];simp only;rw [(jd v).all_eq];simp only [List.all_map,Function.comp_def,qj,ih]
theorem zbB {n:Nat}(v:V n):zY n (zI n v)=zY n v:=by
 unfold zY;rw [zbm,Zy,ZI]
def OrdV:(n:Nat)→V n→Prop
 | 0,_=>True
 | n+1,(v:VS (V n))=>v.m.Pairwise (fun a b=>leK a b=true)∧(∀ x,x∈v.l→OrdV n x)∧∀ p,p∈v.m→OrdV n p.2
theorem ord_sort:∀ (n:Nat) (v:V n),OrdV n (zI n v)
 | 0,v=>nomatch v
 | n+1,(v:VS (V n))=>by
  have ih:=ord_sort n;refine⟨List.pairwise_mergeSort Qt KY _,fun x a=>?_,fun p hp=>?_⟩;·obtain⟨y,_,rfl⟩:=List.mem_map.1 a;exact ih y
  ·have hp:=(jd v).mem_iff.1 hp;obtain⟨y,_,rfl⟩:=List.mem_map.1 hp;exact ih y.2
theorem sort_id:∀ (n:Nat) (v:V n),OrdV n v→zI n v=v
 | 0,v,_=>nomatch v
 | n+1,(v:VS (V n)),h=>by obtain⟨h1,h2,h3⟩:=h;have d:v.l.map (zI n)=v.l:=(List.map_congr_left fun x a=>sort_id n x (h2 x a)).trans (List.map_id' _);have b:v.m.map (qj (zI n))=v.m:=(List.map_congr_left (g:=id) fun p hp=>Prod.ext (x:=qj (zI n) p) (y:=p) rfl (sort_id n p.2 (h3 p hp))).trans (List.map_id _);rw [bg,d,b,List.mergeSort_of_pairwise h1]
theorem sort_sort (n:Nat)(v:V n):zI n (zI n v)=zI n v:=sort_id n _ (ord_sort n v)
theorem JT (s:List UInt8):(yH s).length≤6*s.length+2:=by
 have h:(s.flatMap yp).length≤6*s.length:=by
  induction s with
  | nil=>simp
  | cons b s ih=>
   rw [List.flatMap_cons,List.length_append,List.length_cons];have:(yp b).length≤6:=by
    unfold yp;split;·simp
    ·split <;> simp
   omega
 unfold yH;rw [List.length_cons,List.length_append];simp only [List.length_cons,List.length_nil];omega
theorem QM:∀ (l:List (List UInt8)),(zX l).length≤(l.map (fun x=>x.length+1)).sum
 | []=>XA
 | [x]=>by simp [zX]
 | x::y::l=>by
  have:=QM (y::l);have e:(zX (x::y::l)).length=x.length+((zX (y::l)).length+1):=by simp [zX]
  rw [e,List.map_cons,List.sum_cons];omega
theorem itoa_len (n:Int)(h:-9007199254740991≤n∧n≤9007199254740991):(itoa n).length≤21:=Lib.itoa_length_le n Ws Ws
theorem sum_lin {α:Type}(f g h:α→Nat)(a b:Nat)(l:List α)(d:∀ x,x∈l→f x≤a*g x+b*h x):(l.map f).sum≤a*(l.map g).sum+b*(l.map h).sum:=by
 rw [← Kn,← Kn,← KO];exact jT l d
theorem Qk:∀ (n:Nat) (v:V n),zo n v=true→(zr n v).length+6≤6*zT n v+30*zq n v
 | 0,v,_=>nomatch v
 | n+1,(v:VS (V n)),h=>by
  have ih:=fun x (d:x∈v.kids)=>Qk n x (jg h d);have i:zq (n+1) v=1+((v.l.map (zq n)).sum+(v.m.map (fun p=>zq n p.2)).sum):=by rw [← jn];rfl
  have f:zT (n+1) v=v.s.size+(v.m.map (fun p=>p.1.size)).sum+((v.l.map (zT n)).sum+(v.m.map (fun p=>zT n p.2)).sum):=by rw [← jn];rfl
  rw [K4];rcases jM (jR h) with ⟨h1,h2,h3,h4,h5⟩ | ⟨h1,h2,h3,h4,h5⟩ | ⟨h1,h2,h3,h4,h5⟩ | ⟨h1,h2,h3,h4,h5⟩ | ⟨h1,h2,h3,h5⟩ | ⟨h1,h2,h3,h4,h5⟩
  ·rw [if_pos h1];simp only [List.length_cons,List.length_nil];omega
  ·rw [if_neg Ws,if_pos h1];split <;> (simp only [List.length_cons,List.length_nil];omega)
  ·rw [if_neg Ws,if_neg Ws,if_pos h1];have:=itoa_len v.num h2;omega
  ·rw [if_neg Ws,if_neg Ws,if_neg Ws,if_pos h1];have:=JT v.s.data.toList;have e:v.s.data.toList.length=v.s.size:=rfl;omega
  ·rw [if_neg Ws,if_neg Ws,if_neg Ws,if_neg Ws,if_pos h1];have a:=QM (v.l.map (zr n));rw [List.map_map] at a;have b:=sum_lin ((fun x=>x.length+1) ∘ zr n) (zT n) (zq n) 6 30 v.l (fun x d=>by
    have:=ih x (je d);show (zr n x).length+1≤_;omega)
   rw [List.length_cons,List.length_append];simp only [List.length_cons,List.length_nil];omega
  ·rw [if_neg Ws,if_neg Ws,if_neg Ws,if_neg Ws,if_neg Ws];have a:=QM (v.m.map (jL (zr n)));rw [List.map_map] at a;have b:=sum_lin ((fun x=>x.length+1) ∘ jL (zr n)) (fun p=>p.1.size+zT n p.2) (fun p=>zq n p.2) 6 30 v.m (fun p hp=>by
    have:=ih p.2 (kN hp);have q:=JT p.1.data.toList;have e:p.1.data.toList.length=p.1.size:=rfl;show (yH p.1.data.toList++(58::zr n p.2)).length+1≤6*(p.1.size+zT n p.2)+30*zq n p.2;rw [List.length_append,List.length_cons];omega)
   rw [KO] at b;rw [List.length_cons,List.length_append];simp only [List.length_cons,List.length_nil];have e:(zX (v.m.map (fun p=>yH p.1.data.toList++(58::zr n p.2)))).length=(zX (v.m.map (jL (zr n)))).length:=rfl;omega
end Go.Proofs.YtjccecajigmfkaaGreatDoor

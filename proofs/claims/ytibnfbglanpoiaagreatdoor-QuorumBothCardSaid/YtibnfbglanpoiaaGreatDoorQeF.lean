/- Parts of one proof, merged: XVW XVX XVY XVZ. -/
import Derived.Test.YtibnfbglanpoiaaGreatDoorQeB
import Derived.Lib.ValidLaws
set_option linter.all false
set_option maxHeartbeats 12800000
set_option maxRecDepth 10000
namespace Go.Proofs.YtibnfbglanpoiaaGreatDoor
open Go.Lib (decodeL decDigits itoa)
theorem isDig_of (d:Nat) (h:d<10):isDig (UInt8.ofNat (48+d))=true∧(UInt8.ofNat (48+d)).toNat=48+d:=by
 have e:(UInt8.ofNat (48+d)).toNat=48+d:=by rw [UInt8.toNat_ofNat'];omega
 refine⟨?_,e⟩
 unfold isDig
 rw [e,Bool.and_eq_true]
 exact⟨decide_eq_true Ws,decide_eq_true Ws⟩
theorem digSum_snoc (l:List UInt8) (c:UInt8):digSum (l++[c])=10*digSum l+(c.toNat-48):=by
 unfold digSum
 rw [List.foldl_append]
 rfl
theorem dec_facts (u:Nat):digSum (decDigits u)=u∧(∀ c,c∈decDigits u→isDig c=true)∧∃ d t,decDigits u=d::t∧(d=48→t=[]∧u=0):=by
 induction u using Nat.strongRecOn with
 | _ u ih=>
  rw [decDigits]
  split
  ·rename_i h
   obtain⟨h1,h2⟩:=isDig_of u h
   refine⟨?_,fun c hc=>?_,_,_,rfl,fun e=>⟨rfl,?_⟩⟩
   ·show 10*0+((UInt8.ofNat (48+u)).toNat-48)=u
    omega
   ·rw [List.mem_singleton.1 hc];exact h1
   ·rw [e] at h2
    have:(48:UInt8).toNat=48:=rfl
    omega
  ·rename_i h
   obtain⟨i1,i2,d,t,i3,i4⟩:=ih (u/10) Ws
   obtain⟨h1,h2⟩:=isDig_of (u%10) Ws
   refine⟨?_,fun c hc=>?_,d,t++[UInt8.ofNat (48+u%10)],by rw [i3];rfl,fun e=>?_⟩
   ·rw [digSum_snoc,i1,h2];omega
   ·rcases List.mem_append.1 hc with hc | hc
    ·exact i2 c hc
    ·rw [List.mem_singleton.1 hc];exact h1
   ·have:=(i4 e).2
    omega
theorem itoa_head (n:Int):∃ d t,itoa n=d::t∧(d=45∨isDig d=true):=by
 unfold itoa
 split
 ·exact⟨_,_,rfl,.inl rfl⟩
 ·obtain⟨_,h2,d,t,h3,_⟩:=dec_facts n.toNat
  exact⟨d,t,h3,.inr (h2 d (by rw [h3];exact List.mem_cons_self ..))⟩
section
variable {n : Nat}
theorem writeV_eq (v:VS (V n)):zt (n+1) v=if v.kind=1 then [110,117,108,108]
  else if v.kind=2 then (if v.num=1 then [116,114,117,101] else [102,97,108,115,101])
  else if v.kind=3 then itoa v.num
  else if v.kind=4 then yG v.s.data.toList
  else if v.kind=5 then 91::(qE (v.l.map (zt n))++[93])
  else 123::(qE (v.m.map (fun p=>yG p.1.data.toList++(58::zt n p.2)))++[125]):=rfl
end
def pairT {α:Type}(w:α→List UInt8) (p:ByteArray×α):List UInt8:=yG p.1.data.toList++(58::w p.2)
section
variable {α : Type} {sub : List UInt8 → Nat → Sum Int (α × List UInt8 × Nat)}
end
open Go.Lib (itoa)
def qK {α β:Type}(f:α→β) (p:ByteArray×α):ByteArray×β:=(p.1,f p.2)
section
variable {n : Nat}
theorem ZN (v:VS (V n)):zy (n+1) v=(⟨v.kind,v.num,v.s,v.l.map (zy n),(v.m.map (qK (zy n))).mergeSort leK⟩:VS (V n)):=rfl
theorem jO (v:VS (V n)):((v.m.map (qK (zy n))).mergeSort leK).Perm (v.m.map (qK (zy n))):=List.mergeSort_perm _ _
end
theorem vo:∀ (n:Nat) (v:V n),zw n (zy n v)=zw n v
 | 0,v=>nomatch v
 | n+1,(v:VS (V n))=>by
  have ih:=vo n
  have e:∀ u:VS (V n),zw (n+1) u=1+((u.l.map (zw n)).sum+(u.m.map (fun p=>zw n p.2)).sum):=fun u=>by rw [← j8];rfl
  rw [e v]
  rw [ZN]
  rw [e]
  simp only
  have h:=((jO v).map (fun p=>zw n p.2)).sum_nat
  rw [h]
  simp only [List.map_map,Function.comp_def,qK,ih]
theorem jW:∀ (n:Nat) (v:V n),yl n (zy n v)=yl n v
 | 0,v=>nomatch v
 | n+1,(v:VS (V n))=>by
  have ih:=jW n
  have e:∀ u:VS (V n),yl (n+1) u=u.s.size+(u.m.map (fun p=>p.1.size)).sum+((u.l.map (yl n)).sum+(u.m.map (fun p=>yl n p.2)).sum):=fun u=>by rw [← j8];rfl
  rw [e v]
  rw [ZN]
  rw [e]
  simp only
  have h:=((jO v).map (fun p=>yl n p.2)).sum_nat
  have h2:=((jO v).map (fun p=>p.1.size)).sum_nat
  rw [h,h2]
  simp only [List.map_map,Function.comp_def,qK,ih]
theorem own_same {α β:Type}{w:VS α}{v:VS β}(h1:w.kind=v.kind) (h2:w.num=v.num) (h3:w.s=v.s) (h4:w.l.isEmpty=v.l.isEmpty) (h5:w.m.isEmpty=v.m.isEmpty) (h6:xA w.m=xA v.m):zx w=zx v:=by
 unfold zx
 rw [h1,h2,h3,h4,h5,h6]
theorem keys_perm {α β:Type}{a:List (ByteArray×α)}{b:List (ByteArray×β)}(h:(a.map (fun p=>p.1)).Perm (b.map (fun p=>p.1))):xA a=xA b:=by
 have e:∀ {γ:Type}(l:List (ByteArray×γ)),xA l=((l.map (fun p=>p.1)).all zQ&&decide ((l.map (fun p=>p.1)).Nodup)):=fun l=>by
  unfold xA
  rw [List.all_map]
  rfl
 rw [e,e,h.all_eq]
 congr 1
 exact decide_eq_decide.2 h.nodup_iff
theorem kp:∀ (n:Nat) (v:V n),zr n (zy n v)=zr n v
 | 0,v=>nomatch v
 | n+1,(v:VS (V n))=>by
  have ih:=kp n
  have e:∀ u:VS (V n),zr (n+1) u=(zx u&&(u.l.all (zr n)&&u.m.all (fun p=>zr n p.2))):=fun u=>by
   show (zx u&&(u.l++u.m.map (fun p=>p.2)).all (zr n))=_
   rw [List.all_append,List.all_map]
   rfl
  rw [e v]
  rw [ZN]
  rw [e]
  have ho:zx (⟨v.kind,v.num,v.s,v.l.map (zy n),(v.m.map (qK (zy n))).mergeSort leK⟩:VS (V n))=zx v:=by
   refine own_same rfl rfl rfl ?_ ?_ ?_
   ·simp only [List.isEmpty_map]
   ·rw [Bool.eq_iff_iff]
    simp only [List.isEmpty_iff_length_eq_zero,List.length_mergeSort,List.length_map]
   ·refine (keys_perm ((jO v).map (fun p=>p.1))).trans ?_
    unfold xA
    simp only [List.all_map,List.map_map,Function.comp_def,qK]
  rw [ho]
  simp only
  rw [(jO v).all_eq]
  simp only [List.all_map,Function.comp_def,qK,ih]
theorem QL (s:List UInt8):(yG s).length≤6*s.length+2:=by
 have h:(s.flatMap yd).length≤6*s.length:=by
  induction s with
  | nil=>simp
  | cons b s ih=>
   rw [List.flatMap_cons,List.length_append,List.length_cons]
   have:(yd b).length≤6:=by
    unfold yd
    split
    ·simp
    ·split <;> simp
   omega
 unfold yG
 rw [List.length_cons,List.length_append]
 simp only [List.length_cons,List.length_nil]
 omega
theorem YF:∀ (l:List (List UInt8)),(qE l).length≤(l.map (fun x=>x.length+1)).sum
 | []=>Nat.le_refl _
 | [x]=>by simp [qE]
 | x::y::l=>by
  have:=YF (y::l)
  have e:(qE (x::y::l)).length=x.length+((qE (y::l)).length+1):=by simp [qE]
  rw [e,List.map_cons,List.sum_cons]
  omega
theorem itoa_len (n:Int) (h:-9007199254740991≤n∧n≤9007199254740991):(itoa n).length≤21:=Lib.itoa_length_le n Ws Ws
theorem sum_lin {α:Type}(f g h:α→Nat) (a b:Nat) (l:List α) (hl:∀ x,x∈l→f x≤a*g x+b*h x):(l.map f).sum≤a*(l.map g).sum+b*(l.map h).sum:=by
 rw [← Qn,← Qn,← Ki]
 exact jb l hl
theorem ZV:∀ (n:Nat) (v:V n),zr n v=true→(zt n v).length+6≤6*yl n v+30*zw n v
 | 0,v,_=>nomatch v
 | n+1,(v:VS (V n)),h=>by
  have ih:=fun x (hx:x∈v.kids)=>ZV n x (qR h hx)
  have ec:zw (n+1) v=1+((v.l.map (zw n)).sum+(v.m.map (fun p=>zw n p.2)).sum):=by rw [← j8];rfl
  have eb:yl (n+1) v=v.s.size+(v.m.map (fun p=>p.1.size)).sum+((v.l.map (yl n)).sum+(v.m.map (fun p=>yl n p.2)).sum):=by rw [← j8];rfl
  rw [writeV_eq]
  rcases jh (jf h) with ⟨h1,h2,h3,h4,h5⟩ | ⟨h1,h2,h3,h4,h5⟩ | ⟨h1,h2,h3,h4,h5⟩ | ⟨h1,h2,h3,h4,h5⟩ | ⟨h1,h2,h3,h5⟩ | ⟨h1,h2,h3,h4,h5⟩
  ·rw [if_pos h1];simp only [List.length_cons,List.length_nil];omega
  ·rw [if_neg Ws,if_pos h1]
   split <;> (simp only [List.length_cons,List.length_nil];omega)
  ·rw [if_neg Ws,if_neg Ws,if_pos h1]
   have:=itoa_len v.num h2
   omega
  ·rw [if_neg Ws,if_neg Ws,if_neg Ws,if_pos h1]
   have:=QL v.s.data.toList
   have e:v.s.data.toList.length=v.s.size:=rfl
   omega
  ·rw [if_neg Ws,if_neg Ws,if_neg Ws,if_neg Ws,if_pos h1]
   have a:=YF (v.l.map (zt n))
   rw [List.map_map] at a
   have b:=sum_lin ((fun x=>x.length+1) ∘ zt n) (yl n) (zw n) 6 30 v.l (fun x hx=>by
    have:=ih x (kZ hx)
    show (zt n x).length+1≤_
    omega)
   rw [List.length_cons,List.length_append]
   simp only [List.length_cons,List.length_nil]
   omega
  ·rw [if_neg Ws,if_neg Ws,if_neg Ws,if_neg Ws,if_neg Ws]
   have a:=YF (v.m.map (pairT (zt n)))
   rw [List.map_map] at a
   have b:=sum_lin ((fun x=>x.length+1) ∘ pairT (zt n)) (fun p=>p.1.size+yl n p.2) (fun p=>zw n p.2) 6 30 v.m (fun p hp=>by
    have:=ih p.2 (k9 hp)
    have q:=QL p.1.data.toList
    have e:p.1.data.toList.length=p.1.size:=rfl
    show (yG p.1.data.toList++(58::zt n p.2)).length+1≤6*(p.1.size+yl n p.2)+30*zw n p.2
    rw [List.length_append,List.length_cons]
    omega)
   rw [Ki] at b
   rw [List.length_cons,List.length_append]
   simp only [List.length_cons,List.length_nil]
   have e:(qE (v.m.map (fun p=>yG p.1.data.toList++(58::zt n p.2)))).length=(qE (v.m.map (pairT (zt n)))).length:=rfl
   omega
open Go.Lib (decodeL decodeN)
theorem kV (a:Nat) (t:List UInt8) (h:a<256):gb (UInt8.ofNat a::t) 0=a:=by
 show (UInt8.ofNat a).toNat=a
 rw [UInt8.toNat_ofNat'];omega
theorem QD (x:UInt8) (a:Nat) (t:List UInt8) (h:a<256):gb (x::UInt8.ofNat a::t) 1=a:=kV a t h
theorem gb_two (x y:UInt8) (a:Nat) (t:List UInt8) (h:a<256):gb (x::y::UInt8.ofNat a::t) 2=a:=kV a t h
theorem gb_three (x y z:UInt8) (a:Nat) (t:List UInt8) (h:a<256):gb (x::y::z::UInt8.ofNat a::t) 3=a:=kV a t h
theorem QY (c:Nat) (h:c<55296∨(57344≤c∧c≤1114111)):decodeL (xX c)=(c,(xX c).length)∧1≤(xX c).length∧(xX c).length≤4∧(c<65536→(xX c).length≤3)∧((xX c).length=1→c<128):=by
 rw [jc c h]
 by_cases c1:c<128
 ·rw [if_pos c1,qM,kV _ _ Ws]
  refine⟨?_,Nat.le_refl _,Wz,fun _=>by simp,fun _=>c1⟩
  unfold decodeN
  rw [if_pos c1];rfl
 rw [if_neg c1]
 by_cases c2:c<2048
 ·rw [if_pos c2,qM,kV _ _ Ws,QD _ _ _ Ws]
  refine⟨?_,Wz,Wz,fun _=>by simp,fun q=>by simp at q⟩
  unfold decodeN
  rw [if_neg Ws,if_pos ⟨Ws,Wz,Ws⟩,if_pos Ws]
  exact Prod.ext (by show _=c;omega) rfl
 rw [if_neg c2]
 by_cases c3:c<65536
 ·rw [if_pos c3,qM,kV _ _ Ws,QD _ _ _ Ws,gb_two _ _ _ _ Ws]
  refine⟨?_,Wz,Wz,fun _=>by simp,fun q=>by simp at q⟩
  unfold decodeN
  rw [if_neg Ws,if_neg Ws,if_pos ⟨Ws,⟨Wz,Ws⟩,Wz,Ws⟩,if_pos Ws]
  exact Prod.ext (by show _=c;omega) rfl
 ·rw [if_neg c3,qM,kV _ _ Ws,QD _ _ _ Ws,gb_two _ _ _ _ Ws,gb_three _ _ _ _ _ Ws]
  refine⟨?_,Wz,Wz,fun _=>by omega,fun q=>by simp at q⟩
  unfold decodeN
  rw [if_neg Ws,if_neg Ws,if_neg Ws,if_pos ⟨Ws,⟨Wz,Ws⟩,⟨Wz,Ws⟩,Wz,Ws⟩,if_pos Ws]
  exact Prod.ext (by show _=c;omega) rfl
section
variable {α : Type} {good : α → Prop} {cnt byt : α → Nat} {sub : List UInt8 → Nat → Sum Int (α × List UInt8 × Nat)}
end
theorem depth_le:∀ (n:Nat) (v:V n),zE n v≤n
 | 0,v=>nomatch v
 | n+1,(v:VS (V n))=>by
  have:qU (v.kids.map (zE n))≤n:=bP.2 fun x hx=>by
   obtain⟨y,_,rfl⟩:=List.mem_map.1 hx
   exact depth_le n y
  show 1+_≤n+1
  omega
end Go.Proofs.YtibnfbglanpoiaaGreatDoor

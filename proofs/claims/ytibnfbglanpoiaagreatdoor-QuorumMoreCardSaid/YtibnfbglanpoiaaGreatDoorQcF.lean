/- Parts of one proof, merged: XVX XVY XVZ. -/
import Derived.Test.YtibnfbglanpoiaaGreatDoorQcE
set_option linter.all false
set_option maxHeartbeats 12800000
set_option maxRecDepth 10000
set_option linter.unusedVariables false
set_option linter.unusedSimpArgs false
set_option linter.unnecessarySimpa false
namespace Go.Proofs.YtibnfbglanpoiaaGreatDoor
open Go.Lib (decodeL decDigits itoa)
section
variable {n : Nat}
theorem writeV_eq (v:VS (V n)):zq (n + 1) v=if v.kind=1 then [110,117,108,108]
  else if v.kind=2 then (if v.num=1 then [116,114,117,101] else [102,97,108,115,101])
  else if v.kind=3 then itoa v.num
  else if v.kind=4 then yr v.s.data.toList
  else if v.kind=5 then 91 :: (qm (v.l.map (zq n)) ++ [93])
  else 123 :: (qm (v.m.map (fun p=>yr p.1.data.toList ++ (58 :: zq n p.2))) ++ [125]):=rfl
end
def pairT {α:Type}(w:α→List UInt8) (p:ByteArray × α):List UInt8:=yr p.1.data.toList ++ (58 :: w p.2)
section
variable {α : Type} {sub : List UInt8 → Nat → Sum Int (α × List UInt8 × Nat)}
end
open Go.Lib (itoa)
def qt {α β:Type}(f:α→β) (p:ByteArray × α):ByteArray × β:=(p.1,f p.2)
section
variable {n : Nat}
theorem bD (v:VS (V n)):zz (n + 1) v=(⟨v.kind,v.num,v.s,v.l.map (zz n),(v.m.map (qt (zz n))).mergeSort leK⟩:VS (V n)):=rfl
theorem jq (v:VS (V n)):((v.m.map (qt (zz n))).mergeSort leK).Perm (v.m.map (qt (zz n))):=List.mergeSort_perm _ _
end
theorem jI:∀ (n:Nat) (v:V n),zt n (zz n v)=zt n v
 | 0,v=>nomatch v
 | n + 1,(v:VS (V n))=>by
  have ih:=jI n
  have e:∀ u:VS (V n),zt (n + 1) u=1 + ((u.l.map (zt n)).sum + (u.m.map (fun p=>zt n p.2)).sum):=fun u=>by rw [← jC];rfl
  rw [e v]
  rw [bD]
  rw [e]
  simp only
  have h:=((jq v).map (fun p=>zt n p.2)).sum_nat
  rw [h]
  simp only [List.map_map,Function.comp_def,qt,ih]
theorem jB:∀ (n:Nat) (v:V n),ya n (zz n v)=ya n v
 | 0,v=>nomatch v
 | n + 1,(v:VS (V n))=>by
  have ih:=jB n
  have e:∀ u:VS (V n),ya (n + 1) u=u.s.size + (u.m.map (fun p=>p.1.size)).sum + ((u.l.map (ya n)).sum + (u.m.map (fun p=>ya n p.2)).sum):=fun u=>by rw [← jC];rfl
  rw [e v]
  rw [bD]
  rw [e]
  simp only
  have h:=((jq v).map (fun p=>ya n p.2)).sum_nat
  have h2:=((jq v).map (fun p=>p.1.size)).sum_nat
  rw [h,h2]
  simp only [List.map_map,Function.comp_def,qt,ih]
theorem own_same {α β:Type}{w:VS α}{v:VS β}(h1:w.kind=v.kind) (h2:w.num=v.num) (h3:w.s=v.s) (h4:w.l.isEmpty=v.l.isEmpty) (h5:w.m.isEmpty=v.m.isEmpty) (h6:yY w.m=yY v.m):zv w=zv v:=by
 unfold zv
 rw [h1,h2,h3,h4,h5,h6]
theorem keys_perm {α β:Type}{a:List (ByteArray × α)}{b:List (ByteArray × β)}(h:(a.map (fun p=>p.1)).Perm (b.map (fun p=>p.1))):yY a=yY b:=by
 have e:∀ {γ:Type}(l:List (ByteArray × γ)),yY l=((l.map (fun p=>p.1)).all zJ && decide ((l.map (fun p=>p.1)).Nodup)):=fun l=>by
  unfold yY
  rw [List.all_map]
  rfl
 rw [e,e,h.all_eq]
 congr 1
 exact decide_eq_decide.2 h.nodup_iff
theorem jy:∀ (n:Nat) (v:V n),zo n (zz n v)=zo n v
 | 0,v=>nomatch v
 | n + 1,(v:VS (V n))=>by
  have ih:=jy n
  have e:∀ u:VS (V n),zo (n + 1) u=(zv u && (u.l.all (zo n) && u.m.all (fun p=>zo n p.2))):=fun u=>by
   show (zv u && (u.l ++ u.m.map (fun p=>p.2)).all (zo n))=_
   rw [List.all_append,List.all_map]
   rfl
  rw [e v]
  rw [bD]
  rw [e]
  have ho:zv (⟨v.kind,v.num,v.s,v.l.map (zz n),(v.m.map (qt (zz n))).mergeSort leK⟩:VS (V n))=zv v:=by
   refine own_same rfl rfl rfl ?_ ?_ ?_
   ·simp only [List.isEmpty_map]
   ·rw [Bool.eq_iff_iff]
    simp only [List.isEmpty_iff_length_eq_zero,List.length_mergeSort,List.length_map]
   ·refine (keys_perm ((jq v).map (fun p=>p.1))).trans ?_
    unfold yY
    simp only [List.all_map,List.map_map,Function.comp_def,qt]
  rw [ho]
  simp only
  rw [(jq v).all_eq]
  simp only [List.all_map,Function.comp_def,qt,ih]
theorem YY (s:List UInt8):(yr s).length≤6 * s.length + 2:=by
 have h:(s.flatMap zQ).length≤6 * s.length:=by
  induction s with
  | nil=>simp
  | cons b s ih=>
   rw [List.flatMap_cons,List.length_append,List.length_cons]
   have:(zQ b).length≤6:=by
    unfold zQ
    split
    ·simp
    ·split <;> simp
   omega
 unfold yr
 rw [List.length_cons,List.length_append]
 simp only [List.length_cons,List.length_nil]
 omega
theorem ZH:∀ (l:List (List UInt8)),(qm l).length≤(l.map (fun x=>x.length + 1)).sum
 | []=>Nat.le_refl _
 | [x]=>by simp [qm]
 | x :: y :: l=>by
  have:=ZH (y :: l)
  have e:(qm (x :: y :: l)).length=x.length + ((qm (y :: l)).length + 1):=by simp [qm]
  rw [e,List.map_cons,List.sum_cons]
  omega
theorem itoa_len (n:Int) (h:-9007199254740991≤n∧n≤9007199254740991):(itoa n).length≤21:=Lib.itoa_length_le n (by omega) (by omega)
theorem sum_lin {α:Type}(f g h:α→Nat) (a b:Nat) (l:List α) (hl:∀ x,x ∈ l→f x≤a * g x + b * h x):(l.map f).sum≤a * (l.map g).sum + b * (l.map h).sum:=by
 rw [← Z9,← Z9,← QM]
 exact kI l hl
theorem Zs:∀ (n:Nat) (v:V n),zo n v=true→(zq n v).length + 6≤6 * ya n v + 30 * zt n v
 | 0,v,_=>nomatch v
 | n + 1,(v:VS (V n)),h=>by
  have ih:=fun x (hx:x ∈ v.kids)=>Zs n x (qz h hx)
  have ec:zt (n + 1) v=1 + ((v.l.map (zt n)).sum + (v.m.map (fun p=>zt n p.2)).sum):=by rw [← jC];rfl
  have eb:ya (n + 1) v=v.s.size + (v.m.map (fun p=>p.1.size)).sum + ((v.l.map (ya n)).sum + (v.m.map (fun p=>ya n p.2)).sum):=by rw [← jC];rfl
  rw [writeV_eq]
  rcases kK (kM h) with ⟨h1,h2,h3,h4,h5⟩ | ⟨h1,h2,h3,h4,h5⟩ | ⟨h1,h2,h3,h4,h5⟩ | ⟨h1,h2,h3,h4,h5⟩ | ⟨h1,h2,h3,h5⟩ | ⟨h1,h2,h3,h4,h5⟩
  ·rw [if_pos h1];simp only [List.length_cons,List.length_nil];omega
  ·rw [if_neg (by omega),if_pos h1]
   split <;> (simp only [List.length_cons,List.length_nil];omega)
  ·rw [if_neg (by omega),if_neg (by omega),if_pos h1]
   have:=itoa_len v.num h2
   omega
  ·rw [if_neg (by omega),if_neg (by omega),if_neg (by omega),if_pos h1]
   have:=YY v.s.data.toList
   have e:v.s.data.toList.length=v.s.size:=rfl
   omega
  ·rw [if_neg (by omega),if_neg (by omega),if_neg (by omega),if_neg (by omega),if_pos h1]
   have a:=ZH (v.l.map (zq n))
   rw [List.map_map] at a
   have b:=sum_lin ((fun x=>x.length + 1) ∘ zq n) (ya n) (zt n) 6 30 v.l (fun x hx=>by
    have:=ih x (kE hx)
    show (zq n x).length + 1≤_
    omega)
   rw [List.length_cons,List.length_append]
   simp only [List.length_cons,List.length_nil]
   omega
  ·rw [if_neg (by omega),if_neg (by omega),if_neg (by omega),if_neg (by omega),if_neg (by omega)]
   have a:=ZH (v.m.map (pairT (zq n)))
   rw [List.map_map] at a
   have b:=sum_lin ((fun x=>x.length + 1) ∘ pairT (zq n)) (fun p=>p.1.size + ya n p.2) (fun p=>zt n p.2) 6 30 v.m (fun p hp=>by
    have:=ih p.2 (kD hp)
    have q:=YY p.1.data.toList
    have e:p.1.data.toList.length=p.1.size:=rfl
    show (yr p.1.data.toList ++ (58 :: zq n p.2)).length + 1≤6 * (p.1.size + ya n p.2) + 30 * zt n p.2
    rw [List.length_append,List.length_cons]
    omega)
   rw [QM] at b
   rw [List.length_cons,List.length_append]
   simp only [List.length_cons,List.length_nil]
   have e:(qm (v.m.map (fun p=>yr p.1.data.toList ++ (58 :: zq n p.2)))).length=(qm (v.m.map (pairT (zq n)))).length:=rfl
   omega
open Go.Lib (decodeL decodeN)
theorem kg (a:Nat) (t:List UInt8) (h:a < 256):gb (UInt8.ofNat a :: t) 0=a:=by
 show (UInt8.ofNat a).toNat=a
 rw [UInt8.toNat_ofNat'];omega
theorem YR (x:UInt8) (a:Nat) (t:List UInt8) (h:a < 256):gb (x :: UInt8.ofNat a :: t) 1=a:=kg a t h
theorem gb_two (x y:UInt8) (a:Nat) (t:List UInt8) (h:a < 256):gb (x :: y :: UInt8.ofNat a :: t) 2=a:=kg a t h
theorem gb_three (x y z:UInt8) (a:Nat) (t:List UInt8) (h:a < 256):gb (x :: y :: z :: UInt8.ofNat a :: t) 3=a:=kg a t h
theorem Qm (c:Nat) (h:c < 55296∨(57344≤c∧c≤1114111)):decodeL (xG c)=(c,(xG c).length)∧1≤(xG c).length∧(xG c).length≤4∧(c < 65536→(xG c).length≤3)∧((xG c).length=1→c < 128):=by
 rw [kH c h]
 by_cases c1:c < 128
 ·rw [if_pos c1,qy,kg _ _ (by omega)]
  refine⟨?_,Nat.le_refl _,by simp,fun _=>by simp,fun _=>c1⟩
  unfold decodeN
  rw [if_pos c1];rfl
 rw [if_neg c1]
 by_cases c2:c < 2048
 ·rw [if_pos c2,qy,kg _ _ (by omega),YR _ _ _ (by omega)]
  refine⟨?_,by simp,by simp,fun _=>by simp,fun q=>by simp at q⟩
  unfold decodeN
  rw [if_neg (by omega),if_pos ⟨by omega,by simp,by omega⟩,if_pos (by omega)]
  exact Prod.ext (by show _=c;omega) rfl
 rw [if_neg c2]
 by_cases c3:c < 65536
 ·rw [if_pos c3,qy,kg _ _ (by omega),YR _ _ _ (by omega),gb_two _ _ _ _ (by omega)]
  refine⟨?_,by simp,by simp,fun _=>by simp,fun q=>by simp at q⟩
  unfold decodeN
  rw [if_neg (by omega),if_neg (by omega),if_pos ⟨by omega,⟨by simp,by omega⟩,by simp,by omega⟩,if_pos (by omega)]
  exact Prod.ext (by show _=c;omega) rfl
 ·rw [if_neg c3,qy,kg _ _ (by omega),YR _ _ _ (by omega),gb_two _ _ _ _ (by omega),gb_three _ _ _ _ _ (by omega)]
  refine⟨?_,by simp,by simp,fun _=>by omega,fun q=>by simp at q⟩
  unfold decodeN
  rw [if_neg (by omega),if_neg (by omega),if_neg (by omega),if_pos ⟨by omega,⟨by simp,by omega⟩,⟨by simp,by omega⟩,by simp,by omega⟩,if_pos (by omega)]
  exact Prod.ext (by show _=c;omega) rfl
section
variable {α : Type} {good : α → Prop} {cnt byt : α → Nat} {sub : List UInt8 → Nat → Sum Int (α × List UInt8 × Nat)}
end
theorem depth_le:∀ (n:Nat) (v:V n),zy n v≤n
 | 0,v=>nomatch v
 | n + 1,(v:VS (V n))=>by
  have:qB (v.kids.map (zy n))≤n:=be.2 fun x hx=>by
   obtain⟨y,_,rfl⟩:=List.mem_map.1 hx
   exact depth_le n y
  show 1 + _≤n + 1
  omega
end Go.Proofs.YtibnfbglanpoiaaGreatDoor

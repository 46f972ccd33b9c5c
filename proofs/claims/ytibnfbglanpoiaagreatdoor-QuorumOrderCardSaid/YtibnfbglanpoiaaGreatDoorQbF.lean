/- Parts of one proof, merged: XVX XVY XVZ. -/
import Derived.Test.YtibnfbglanpoiaaGreatDoorQbE
set_option linter.all false
set_option maxHeartbeats 12800000
set_option maxRecDepth 10000
set_option linter.unusedVariables false
set_option linter.unusedSimpArgs false
set_option linter.unnecessarySimpa false
namespace Go.Proofs.YtibnfbglanpoiaaGreatDoor
open Go.Lib (decodeL decDigits itoa)
section
variable {n : Nat}
theorem writeV_eq (v:VS (V n)):zp (n + 1) v=if v.kind=1 then [110,117,108,108]
  else if v.kind=2 then (if v.num=1 then [116,114,117,101] else [102,97,108,115,101])
  else if v.kind=3 then itoa v.num
  else if v.kind=4 then yn v.s.data.toList
  else if v.kind=5 then 91 :: (xZ (v.l.map (zp n)) ++ [93])
  else 123 :: (xZ (v.m.map (fun p=>yn p.1.data.toList ++ (58 :: zp n p.2))) ++ [125]):=rfl
end
def pairT {α:Type}(w:α→List UInt8) (p:ByteArray × α):List UInt8:=yn p.1.data.toList ++ (58 :: w p.2)
section
variable {α : Type} {sub : List UInt8 → Nat → Sum Int (α × List UInt8 × Nat)}
end
open Go.Lib (itoa)
def qh {α β:Type}(f:α→β) (p:ByteArray × α):ByteArray × β:=(p.1,f p.2)
section
variable {n : Nat}
theorem bg (v:VS (V n)):zv (n + 1) v=(⟨v.kind,v.num,v.s,v.l.map (zv n),(v.m.map (qh (zv n))).mergeSort leK⟩:VS (V n)):=rfl
theorem jc (v:VS (V n)):((v.m.map (qh (zv n))).mergeSort leK).Perm (v.m.map (qh (zv n))):=List.mergeSort_perm _ _
end
theorem jf:∀ (n:Nat) (v:V n),zF n (zv n v)=zF n v
 | 0,v=>nomatch v
 | n + 1,(v:VS (V n))=>by
  have ih:=jf n
  have e:∀ u:VS (V n),zF (n + 1) u=1 + ((u.l.map (zF n)).sum + (u.m.map (fun p=>zF n p.2)).sum):=fun u=>by rw [← ju];rfl
  rw [e v]
  rw [bg]
  rw [e]
  simp only
  have h:=((jc v).map (fun p=>zF n p.2)).sum_nat
  rw [h]
  simp only [List.map_map,Function.comp_def,qh,ih]
theorem jl:∀ (n:Nat) (v:V n),yd n (zv n v)=yd n v
 | 0,v=>nomatch v
 | n + 1,(v:VS (V n))=>by
  have ih:=jl n
  have e:∀ u:VS (V n),yd (n + 1) u=u.s.size + (u.m.map (fun p=>p.1.size)).sum + ((u.l.map (yd n)).sum + (u.m.map (fun p=>yd n p.2)).sum):=fun u=>by rw [← ju];rfl
  rw [e v]
  rw [bg]
  rw [e]
  simp only
  have h:=((jc v).map (fun p=>yd n p.2)).sum_nat
  have h2:=((jc v).map (fun p=>p.1.size)).sum_nat
  rw [h,h2]
  simp only [List.map_map,Function.comp_def,qh,ih]
theorem own_same {α β:Type}{w:VS α}{v:VS β}(h1:w.kind=v.kind) (h2:w.num=v.num) (h3:w.s=v.s) (h4:w.l.isEmpty=v.l.isEmpty) (h5:w.m.isEmpty=v.m.isEmpty) (h6:xK w.m=xK v.m):zH w=zH v:=by
 unfold zH
 rw [h1,h2,h3,h4,h5,h6]
theorem keys_perm {α β:Type}{a:List (ByteArray × α)}{b:List (ByteArray × β)}(h:(a.map (fun p=>p.1)).Perm (b.map (fun p=>p.1))):xK a=xK b:=by
 have e:∀ {γ:Type}(l:List (ByteArray × γ)),xK l=((l.map (fun p=>p.1)).all yk && decide ((l.map (fun p=>p.1)).Nodup)):=fun l=>by
  unfold xK
  rw [List.all_map]
  rfl
 rw [e,e,h.all_eq]
 congr 1
 exact decide_eq_decide.2 h.nodup_iff
theorem jm:∀ (n:Nat) (v:V n),zx n (zv n v)=zx n v
 | 0,v=>nomatch v
 | n + 1,(v:VS (V n))=>by
  have ih:=jm n
  have e:∀ u:VS (V n),zx (n + 1) u=(zH u && (u.l.all (zx n) && u.m.all (fun p=>zx n p.2))):=fun u=>by
   show (zH u && (u.l ++ u.m.map (fun p=>p.2)).all (zx n))=_
   rw [List.all_append,List.all_map]
   rfl
  rw [e v]
  rw [bg]
  rw [e]
  have ho:zH (⟨v.kind,v.num,v.s,v.l.map (zv n),(v.m.map (qh (zv n))).mergeSort leK⟩:VS (V n))=zH v:=by
   refine own_same rfl rfl rfl ?_ ?_ ?_
   ·simp only [List.isEmpty_map]
   ·rw [Bool.eq_iff_iff]
    simp only [List.isEmpty_iff_length_eq_zero,List.length_mergeSort,List.length_map]
   ·refine (keys_perm ((jc v).map (fun p=>p.1))).trans ?_
    unfold xK
    simp only [List.all_map,List.map_map,Function.comp_def,qh]
  rw [ho]
  simp only
  rw [(jc v).all_eq]
  simp only [List.all_map,Function.comp_def,qh,ih]
theorem ZT (s:List UInt8):(yn s).length≤6 * s.length + 2:=by
 have h:(s.flatMap zO).length≤6 * s.length:=by
  induction s with
  | nil=>simp
  | cons b s ih=>
   rw [List.flatMap_cons,List.length_append,List.length_cons]
   have:(zO b).length≤6:=by
    unfold zO
    split
    ·simp
    ·split <;> simp
   omega
 unfold yn
 rw [List.length_cons,List.length_append]
 simp only [List.length_cons,List.length_nil]
 omega
theorem Zr:∀ (l:List (List UInt8)),(xZ l).length≤(l.map (fun x=>x.length + 1)).sum
 | []=>Nat.le_refl _
 | [x]=>by simp [xZ]
 | x :: y :: l=>by
  have:=Zr (y :: l)
  have e:(xZ (x :: y :: l)).length=x.length + ((xZ (y :: l)).length + 1):=by simp [xZ]
  rw [e,List.map_cons,List.sum_cons]
  omega
theorem itoa_len (n:Int) (h:-9007199254740991≤n∧n≤9007199254740991):(itoa n).length≤21:=Lib.itoa_length_le n (by omega) (by omega)
theorem sum_lin {α:Type}(f g h:α→Nat) (a b:Nat) (l:List α) (hl:∀ x,x ∈ l→f x≤a * g x + b * h x):(l.map f).sum≤a * (l.map g).sum + b * (l.map h).sum:=by
 rw [← Zv,← Zv,← Qa]
 exact ku l hl
theorem bL:∀ (n:Nat) (v:V n),zx n v=true→(zp n v).length + 6≤6 * yd n v + 30 * zF n v
 | 0,v,_=>nomatch v
 | n + 1,(v:VS (V n)),h=>by
  have ih:=fun x (hx:x ∈ v.kids)=>bL n x (ql h hx)
  have ec:zF (n + 1) v=1 + ((v.l.map (zF n)).sum + (v.m.map (fun p=>zF n p.2)).sum):=by rw [← ju];rfl
  have eb:yd (n + 1) v=v.s.size + (v.m.map (fun p=>p.1.size)).sum + ((v.l.map (yd n)).sum + (v.m.map (fun p=>yd n p.2)).sum):=by rw [← ju];rfl
  rw [writeV_eq]
  rcases km (kp h) with ⟨h1,h2,h3,h4,h5⟩ | ⟨h1,h2,h3,h4,h5⟩ | ⟨h1,h2,h3,h4,h5⟩ | ⟨h1,h2,h3,h4,h5⟩ | ⟨h1,h2,h3,h5⟩ | ⟨h1,h2,h3,h4,h5⟩
  ·rw [if_pos h1];simp only [List.length_cons,List.length_nil];omega
  ·rw [if_neg (by omega),if_pos h1]
   split <;> (simp only [List.length_cons,List.length_nil];omega)
  ·rw [if_neg (by omega),if_neg (by omega),if_pos h1]
   have:=itoa_len v.num h2
   omega
  ·rw [if_neg (by omega),if_neg (by omega),if_neg (by omega),if_pos h1]
   have:=ZT v.s.data.toList
   have e:v.s.data.toList.length=v.s.size:=rfl
   omega
  ·rw [if_neg (by omega),if_neg (by omega),if_neg (by omega),if_neg (by omega),if_pos h1]
   have a:=Zr (v.l.map (zp n))
   rw [List.map_map] at a
   have b:=sum_lin ((fun x=>x.length + 1) ∘ zp n) (yd n) (zF n) 6 30 v.l (fun x hx=>by
    have:=ih x (kD hx)
    show (zp n x).length + 1≤_
    omega)
   rw [List.length_cons,List.length_append]
   simp only [List.length_cons,List.length_nil]
   omega
  ·rw [if_neg (by omega),if_neg (by omega),if_neg (by omega),if_neg (by omega),if_neg (by omega)]
   have a:=Zr (v.m.map (pairT (zp n)))
   rw [List.map_map] at a
   have b:=sum_lin ((fun x=>x.length + 1) ∘ pairT (zp n)) (fun p=>p.1.size + yd n p.2) (fun p=>zF n p.2) 6 30 v.m (fun p hp=>by
    have:=ih p.2 (kK hp)
    have q:=ZT p.1.data.toList
    have e:p.1.data.toList.length=p.1.size:=rfl
    show (yn p.1.data.toList ++ (58 :: zp n p.2)).length + 1≤6 * (p.1.size + yd n p.2) + 30 * zF n p.2
    rw [List.length_append,List.length_cons]
    omega)
   rw [Qa] at b
   rw [List.length_cons,List.length_append]
   simp only [List.length_cons,List.length_nil]
   have e:(xZ (v.m.map (fun p=>yn p.1.data.toList ++ (58 :: zp n p.2)))).length=(xZ (v.m.map (pairT (zp n)))).length:=rfl
   omega
open Go.Lib (decodeL decodeN)
section
variable {α : Type} {good : α → Prop} {cnt byt : α → Nat} {sub : List UInt8 → Nat → Sum Int (α × List UInt8 × Nat)}
end
theorem depth_le:∀ (n:Nat) (v:V n),zL n v≤n
 | 0,v=>nomatch v
 | n + 1,(v:VS (V n))=>by
  have:k7 (v.kids.map (zL n))≤n:=bH.2 fun x hx=>by
   obtain⟨y,_,rfl⟩:=List.mem_map.1 hx
   exact depth_le n y
  show 1 + _≤n + 1
  omega
end Go.Proofs.YtibnfbglanpoiaaGreatDoor

/- Parts of one proof, merged: XVZ XVD XVN XK3A XK3B. -/
import Derived.Test.YtjccecajigmfkaaGreatDoorSgC
import Derived.Test.YtjccecajigmfkaaGreatDoorSgB
import Derived.IntWalk
set_option linter.all false
set_option maxHeartbeats 12800000
set_option maxRecDepth 10000
namespace Go.Proofs.YtjccecajigmfkaaGreatDoor
open Go.Proofs.Tryz
open Go.Lib (decodeL decodeN)
variable {a b:ByteArray}{k n:Nat}{r s:List UInt8}{v:V 12}
theorem valid_app:∀ (k:Nat) (a b:List UInt8),a.length≤k→Lib.validD a=true→Lib.validD b=true→Lib.validD (a++b)=true:=by
 intro k
 induction k with
 | zero=>
  intro a b h _ f
  match a,h with
  | [],_=>exact f
 | succ k ih=>
  intro a b h n f
  by_cases d:a=[]
  ·subst d;exact f
  obtain⟨D,hv⟩:=validS n d
  revert D hv
  generalize (decodeL a).1=v
  generalize (decodeL a).2=j
  intro D hv
  have s:=D.pos
  have h2:=D.le
  have e:a++b=a.take j++(a.drop j++b):=by rw [← List.append_assoc,List.take_append_drop]
  have hd:=D.more (a.drop j++b)
  obtain⟨i,_⟩:=QF a (a.drop j++b) j h2
  rw [e,Lib.validD_step _ (by intro q;have:=congrArg List.length q;rw [List.length_append,List.length_take,List.length_nil] at this;omega),hd]
  rw [if_neg,i]
  ·exact ih _ _ (by rw [List.length_drop];omega) hv f
  ·rintro ⟨m,l⟩
   have m:v=65533:=m
   have l:j=1:=l
   obtain⟨r,p⟩:=D.one l
   omega
theorem valid_taken {v:Nat}(D:Kr s v k):Lib.validD (s.take k)=true:=by
 have f:=D.pos
 have h2:=D.le
 have hd:=D.more []
 rw [List.append_nil] at hd
 rw [Lib.validD_step _ (by intro q;have:=congrArg List.length q;rw [List.length_take,List.length_nil] at this;omega),hd,if_neg]
 ·have:(s.take k).drop k=[]:=by rw [List.drop_eq_nil_iff,List.length_take];omega
  show Lib.validD ((s.take k).drop k)=true
  rw [this];rfl
 ·rintro ⟨b,a⟩
  have b:v=65533:=b
  have a:k=1:=a
  obtain⟨d,e⟩:=D.one a
  omega
theorem jo (a:Nat)(t:List UInt8)(h:a<256):gb (UInt8.ofNat a::t) 0=a:=by
 show (UInt8.ofNat a).toNat=a
 rw [UInt8.toNat_ofNat'];omega
theorem JD (x:UInt8)(a:Nat)(t:List UInt8)(h:a<256):gb (x::UInt8.ofNat a::t) 1=a:=jo a t h
theorem gb_two (x y:UInt8)(a:Nat)(t:List UInt8)(h:a<256):gb (x::y::UInt8.ofNat a::t) 2=a:=jo a t h
theorem gb_three (x y z:UInt8)(a:Nat)(t:List UInt8)(h:a<256):gb (x::y::z::UInt8.ofNat a::t) 3=a:=jo a t h
theorem km (c:Nat)(h:c<55296∨(57344≤c∧c≤1114111)):decodeL (yo c)=(c,(yo c).length)∧1≤(yo c).length∧(yo c).length≤4∧(c<65536→(yo c).length≤3)∧((yo c).length=1→c<128):=by
 rw [qP c h]
 by_cases c1:c<128
 ·rw [if_pos c1,qJ,jo _ _ Ws]
  refine⟨?_,XA,Wz,fun _=>by simp,fun _=>c1⟩
  unfold decodeN
  rw [if_pos c1];rfl
 rw [if_neg c1]
 by_cases c2:c<2048
 ·rw [if_pos c2,qJ,jo _ _ Ws,JD _ _ _ Ws]
  refine⟨?_,Wz,Wz,fun _=>by simp,fun q=>by simp at q⟩
  unfold decodeN
  rw [if_neg Ws,if_pos ⟨Ws,Wz,Ws⟩,if_pos Ws]
  exact Prod.ext (by show _=c;omega) rfl
 rw [if_neg c2]
 by_cases c3:c<65536
 ·rw [if_pos c3,qJ,jo _ _ Ws,JD _ _ _ Ws,gb_two _ _ _ _ Ws]
  refine⟨?_,Wz,Wz,fun _=>by simp,fun q=>by simp at q⟩
  unfold decodeN
  rw [if_neg Ws,if_neg Ws,if_pos ⟨Ws,⟨Wz,Ws⟩,Wz,Ws⟩,if_pos Ws]
  exact Prod.ext (by show _=c;omega) rfl
 ·rw [if_neg c3,qJ,jo _ _ Ws,JD _ _ _ Ws,gb_two _ _ _ _ Ws,gb_three _ _ _ _ _ Ws]
  refine⟨?_,Wz,Wz,fun _=>by omega,fun q=>by simp at q⟩
  unfold decodeN
  rw [if_neg Ws,if_neg Ws,if_neg Ws,if_pos ⟨Ws,⟨Wz,Ws⟩,⟨Wz,Ws⟩,Wz,Ws⟩,if_pos Ws]
  exact Prod.ext (by show _=c;omega) rfl
theorem valid_one {y:List UInt8}{c:Nat}(d:decodeL y=(c,y.length))(h2:1≤y.length)(b:y.length=1→c<128):Lib.validD y=true:=by
 rw [Lib.validD_step _ (by intro q;rw [q] at h2;simp at h2),d,if_neg]
 ·show Lib.validD (y.drop y.length)=true
  rw [List.drop_length];rfl
 ·rintro ⟨a,e⟩
  have a:c=65533:=a
  have:=b e
  omega
theorem za2 (c:Nat)(h:c<55296∨(57344≤c∧c≤1114111)):Lib.validD (yo c)=true:=by
 obtain⟨b,h2,_,_,a⟩:=km c h
 exact valid_one b h2 a
theorem zau {c:UInt8}(h:vB c=some n):n<16:=by
 unfold vB at h
 split at h
 ·rename_i q;injection h with h;omega
 split at h
 ·rename_i q;injection h with h;omega
 split at h
 ·rename_i q;injection h with h;omega
 ·cases h
theorem hex4_lt {a b c d:UInt8}(h:hex4 a b c d=some n):n<65536:=by
 unfold hex4 at h
 split at h
 ·rename_i f h2 h3 e
  injection h with h
  have:=zau f
  have:=zau h2
  have:=zau h3
  have:=zau e
  omega
 ·cases h
theorem jP (h:jf s=some n):n<65536∧6≤s.length:=by
 unfold jf at h
 split at h
 ·split at h
  ·exact⟨hex4_lt h,by simp only [List.length_cons];omega⟩
  ·cases h
 ·cases h
theorem K5 {b:List UInt8}(h:bo s=some (b,n)):Lib.validD b=true∧b.length≤n∧1≤n∧n≤s.length:=by
 unfold bo at h
 split at h
 ·rename_i x y t
  have a:2≤(x::y::t).length:=by simp only [List.length_cons];omega
  revert a
  generalize x::y::t=s at h
  intro a
  iterate 8
   split at h
   ·injection h with h;injection h with h1 h2;subst h1;subst h2;exact⟨Wo,Wo,Wo,a⟩
  split at h
  ·cases h
  ·rename_i x d
   obtain⟨l,i⟩:=jP d
   split at h
   ·rename_i hc
    injection h with h;injection h with h1 h2;subst h1;subst h2
    have hv:x<55296∨(57344≤x∧x≤1114111):=Ws
    obtain⟨_,_,_,f,_⟩:=km x hv
    have:=f l
    exact⟨za2 x hv,Ws,Wo,i⟩
   ·rename_i hc
    split at h
    ·cases h
    ·rename_i e
     split at h
     ·cases h
     ·rename_i z j
      obtain⟨_,k⟩:=jP j
      rw [List.length_drop] at k
      split at h
      ·rename_i m
       injection h with h;injection h with h1 h2;subst h1;subst h2
       have hv:65536+(x-55296)*1024+(z-56320)<55296∨(57344≤65536+(x-55296)*1024+(z-56320)∧65536+(x-55296)*1024+(z-56320)≤1114111):=Ws
       obtain⟨_,_,p,_,_⟩:=km _ hv
       exact⟨za2 _ hv,Ws,Wo,Ws⟩
      ·cases h
 ·cases h
theorem unqGo_facts:∀ (f:Nat) (s acc t r:List UInt8),xW f s acc = .inr (t,r)→Lib.validD acc=true→Lib.validD t=true∧t.length+r.length<acc.length+s.length:=by
 intro f
 induction f with
 | zero=>intro s acc t r h;cases h
 | succ f ih=>
  intro s acc t r h hv
  unfold xW at h
  split at h
  ·cases h
  ·rename_i c e
   split at h
   ·injection h with h;injection h with i h2;subst i;subst h2
    exact⟨hv,by simp only [List.length_cons];omega⟩
   split at h
   ·cases h
   split at h
   ·split at h
    ·cases h
    ·rename_i b n l
     obtain⟨j,w,u,p⟩:=K5 l
     obtain⟨d,a⟩:=ih _ _ _ _ h (valid_app _ _ _ (XA) hv j)
     rw [List.length_append,List.length_drop] at a
     exact⟨d,Ws⟩
   split at h
   ·cases h
   ·rename_i m
    have D:=vE (by intro q;cases q) m
    revert D h
    generalize (decodeL (c::e)).1=v
    generalize (decodeL (c::e)).2=k
    intro h D
    have i:=D.pos
    have h2:=D.le
    obtain⟨d,a⟩:=ih _ _ _ _ h (valid_app _ _ _ (XA) hv (valid_taken D))
    rw [List.length_append,List.length_drop,List.length_take] at a
    exact⟨d,Ws⟩
theorem Qm {t:List UInt8}(h:kH s = .inr (t,r)):Lib.validD t=true∧t.length+r.length<s.length:=by
 unfold kH at h
 split at h
 ·cases h
 ·split at h
  ·obtain⟨b,a⟩:=unqGo_facts _ _ _ _ _ h rfl
   exact⟨b,by simp only [List.length_cons,List.length_nil] at a ⊢;omega⟩
  ·cases h
theorem kC (s:List UInt8):(zu s).length≤s.length:=(List.dropWhile_sublist _).length_le
theorem num_facts {n:Int}(h:jE s = .inr (n,r)):(-9007199254740991≤n∧n≤9007199254740991)∧r.length≤s.length:=by
 have b:∀ (m:Bool) (s:List UInt8),jB m s = .inr (n,r)→(-9007199254740991≤n∧n≤9007199254740991)∧r.length≤s.length:=by
  intro m s h
  unfold jB at h
  simp only at h
  split at h
  ·cases h
  split at h
  ·cases h
  split at h
  ·cases h
  ·rename_i d
   injection h with h;injection h with a h2
   subst h2
   rw [List.length_drop]
   refine⟨?_,Ws⟩
   split at a <;> omega
 unfold jE at h
 split at h
 ·obtain⟨a,h2⟩:=b _ _ h
  rw [List.length_tail] at h2
  exact⟨a,Ws⟩
 ·exact b _ _ h
def ReadOk {α:Type}(good:α→Prop)(cnt byt:α→Nat)(sub:List UInt8→Nat→Sum Int (α×List UInt8×Nat)):Prop:=
 ∀ s c v r c',sub s c = .inr (v,r,c')→good v∧c'=c+cnt v∧c'≤4096∧byt v+r.length≤s.length
section
variable {α : Type} {good : α → Prop} {cnt byt : α → Nat} {sub : List UInt8 → Nat → Sum Int (α × List UInt8 × Nat)}
theorem list_facts (m:ReadOk good cnt byt sub):∀ (f:Nat) (s:List UInt8) (c:Nat) (acc l:List α) (r:List UInt8) (c':Nat),ZZ sub f s c acc = .inr (l,r,c')→∃ l',l=acc++l'∧(∀ x,x∈l'→good x)∧c'=c+(l'.map cnt).sum∧c'≤4096∧(l'.map byt).sum+r.length≤s.length:=by
 intro f
 induction f with
 | zero=>intro s c acc l r c' h;cases h
 | succ f ih=>
  intro s c acc l r c' h
  unfold ZZ at h
  split at h
  ·cases h
  ·rename_i v t c0 hv
   obtain⟨b,i,d,p⟩:=m _ _ _ _ _ hv
   split at h
   ·injection h with h;injection h with h1 h2;injection h2 with h2 h3;subst h1;subst h2;subst h3
    exact⟨[v],rfl,fun x a=>List.mem_singleton.1 a ▸ b,by simpa using i,d,by simp [List.length_tail];omega⟩
   split at h
   ·obtain⟨l',j,n,q,e,k⟩:=ih _ _ _ _ _ _ h
    refine⟨v::l',by rw [j];simp,fun x a=>?_,by rw [List.map_cons,List.sum_cons];omega,e,?_⟩
    ·rcases List.mem_cons.1 a with rfl | a
     ·exact b
     ·exact n x a
    ·rw [List.length_tail] at k
     rw [List.map_cons,List.sum_cons];omega
   ·cases h
theorem pairs_facts (w:ReadOk good cnt byt sub):∀ (f:Nat) (s:List UInt8) (c:Nat) (acc l:List (ByteArray×α)) (r:List UInt8) (c':Nat),bi sub f s c acc = .inr (l,r,c')→(acc.map (fun p=>p.1)).Nodup→∃ l',l=acc++l'∧(∀ x,x∈l'→good x.2∧zw x.1=true)∧(l.map (fun p=>p.1)).Nodup∧c'=c+(l'.map (fun p=>cnt p.2)).sum∧c'≤4096∧(l'.map (fun p=>p.1.size+byt p.2)).sum+r.length≤s.length:=by
 intro f
 induction f with
 | zero=>intro s c acc l r c' h;cases h
 | succ f ih=>
  intro s c acc l r c' h z
  unfold bi at h
  split at h
  ·cases h
  ·rename_i k J B
   obtain⟨A,L⟩:=Qm B
   have M:=kC s
   split at h
   ·cases h
   rename_i i
   split at h
   ·split at h
    ·cases h
    ·rename_i v O c1 hv
     obtain⟨q,t,E,I⟩:=w _ _ _ _ _ hv
     have N:=kC J
     rw [List.length_tail] at I
     have d:zw (zx k)=true:=by unfold zw;rw [zK];exact A
     have F:(zx k).size=k.length:=by
      have e:(zx k).data.toList.length=(zx k).size:=rfl
      rw [← e,zK]
     have j:((acc++[(zx k,v)]).map (fun p=>p.1)).Nodup:=by
      rw [List.map_append,List.nodup_append]
      refine⟨z,Wz,fun a H b n e=>?_⟩
      obtain⟨p,hp,rfl⟩:=List.mem_map.1 H
      have n:b=zx k:=by simpa using n
      exact i (List.any_eq_true.2 ⟨p,hp,decide_eq_true (e.trans n)⟩)
     split at h
     ·injection h with h;injection h with h1 h2;injection h2 with h2 h3;subst h1;subst h2;subst h3
      refine⟨[(zx k,v)],rfl,fun x m=>by rw [List.mem_singleton.1 m];exact⟨q,d⟩,j,by simpa using t,E,?_⟩
      rw [List.length_tail]
      simp only [List.map_cons,List.map_nil,List.sum_cons,List.sum_nil]
      omega
     split at h
     ·obtain⟨l',u,C,y,K,G,D⟩:=ih _ _ _ _ _ _ h j
      refine⟨(zx k,v)::l',by rw [u];simp,fun x m=>?_,y,by rw [List.map_cons,List.sum_cons];simp only;omega,G,?_⟩
      ·rcases List.mem_cons.1 m with rfl | m
       ·exact⟨q,d⟩
       ·exact C x m
      ·rw [List.length_tail] at D
       rw [List.map_cons,List.sum_cons]
       simp only
       omega
     ·cases h
   ·cases h
end
theorem kW (k m:Int)(s:ByteArray):zq (n+1) (leaf k m s:VS (V n))=1∧zT (n+1) (leaf k m s:VS (V n))=s.size:=⟨rfl,by show s.size+0+0=s.size;omega⟩
theorem zbM {v:VS (V n)}(a:zE v=true)(h2:∀ x,x∈v.kids→zo n x=true):zo (n+1) v=true:=by
 show (zE v&&v.kids.all (zo n))=true
 rw [Bool.and_eq_true]
 exact⟨a,List.all_eq_true.2 h2⟩
theorem k7 {k m:Int}{s:ByteArray}(h:zE (leaf k m s:VS (V n))=true):zo (n+1) (leaf k m s:VS (V n))=true:=zbM h (fun x a=>by cases a)
theorem ZM:∀ (d:Nat),ReadOk (fun v=>zo d v=true) (zq d) (zT d) (zy d):=by
 intro d
 induction d with
 | zero=>intro s c v;exact nomatch v
 | succ d ih=>
  intro s c v r J h
  unfold zy at h
  split at h
  ·cases h
  split at h
  ·cases h
  rename_i F hc
  have hc:c+1≤4096:=Ws
  split at h
  ·cases h
  ·rename_i v0 D c0 a
   injection h with h;injection h with h1 h2;injection h2 with h2 h3;subst h1;subst h2;subst h3
   have y:=kC s
   have n:=kC D
   have key:zo (d+1) v0=true∧c0=c+zq (d+1) v0∧c0≤4096∧zT (d+1) v0+D.length≤(zu s).length:=by
    clear y n F
    generalize zu s=t at a
    unfold xA at a
    split at a
    ·injection a with h;injection h with h1 h2;injection h2 with h2 h3;subst h1;subst h2;subst h3
     exact⟨k7 rfl,rfl,hc,by rw [(kW _ _ _).2,List.length_drop];show 0+_≤_;omega⟩
    split at a
    ·injection a with h;injection h with h1 h2;injection h2 with h2 h3;subst h1;subst h2;subst h3
     exact⟨k7 rfl,rfl,hc,by rw [(kW _ _ _).2,List.length_drop];show 0+_≤_;omega⟩
    split at a
    ·injection a with h;injection h with h1 h2;injection h2 with h2 h3;subst h1;subst h2;subst h3
     exact⟨k7 rfl,rfl,hc,by rw [(kW _ _ _).2,List.length_drop];show 0+_≤_;omega⟩
    split at a
    ·split at a
     ·cases a
     ·rename_i k w E
      injection a with h;injection h with h1 h2;injection h2 with h2 h3;subst h1;subst h2;subst h3
      obtain⟨i,u⟩:=Qm E
      have b:zw (zx k)=true:=by unfold zw;rw [zK];exact i
      have I:(zx k).size=k.length:=by
       have e:(zx k).data.toList.length=(zx k).size:=rfl
       rw [← e,zK]
      refine⟨k7 ?_,rfl,hc,by rw [(kW _ _ _).2];omega⟩
      show (zw (zx k)&&true&&true&&true)=true
      rw [b];rfl
    split at a
    ·split at a
     ·injection a with h;injection h with h1 h2;injection h2 with h2 h3;subst h1;subst h2;subst h3
      refine⟨k7 rfl,rfl,hc,?_⟩
      have:=kC t.tail
      rw [List.length_tail] at this
      rw [(kW _ _ _).2,List.length_tail];show 0+_≤_;omega
     ·split at a
      ·cases a
      ·rename_i l w c1 z
       injection a with h;injection h with h1 h2;injection h2 with h2 h3;subst h1;subst h2;subst h3
       obtain⟨l',f,q,B,A,C⟩:=list_facts ih _ _ _ _ _ _ _ z
       rw [List.nil_append] at f
       subst f
       have:=kC t.tail
       rw [List.length_tail] at this
       refine⟨zbM rfl fun x j=>?_,?_,A,?_⟩
       ·exact q x (by simpa [VS.kids] using j)
       ·have:zq (d+1) (⟨5,0,⟨#[]⟩,l,[]⟩:VS (V d))=1+((l.map (zq d)).sum+0):=by rw [← Nat.add_zero (List.sum _)];show 1+((l++[]).map (zq d)).sum=_;rw [List.append_nil];omega
        omega
       ·have:zT (d+1) (⟨5,0,⟨#[]⟩,l,[]⟩:VS (V d))=(l.map (zT d)).sum:=by show 0+0+((l++[]).map (zT d)).sum=_;rw [List.append_nil];omega
        omega
    split at a
    ·split at a
     ·injection a with h;injection h with h1 h2;injection h2 with h2 h3;subst h1;subst h2;subst h3
      refine⟨k7 rfl,rfl,hc,?_⟩
      have:=kC t.tail
      rw [List.length_tail] at this
      rw [(kW _ _ _).2,List.length_tail];show 0+_≤_;omega
     ·split at a
      ·cases a
      ·rename_i l w c1 z
       injection a with h;injection h with h1 h2;injection h2 with h2 h3;subst h1;subst h2;subst h3
       obtain⟨l',f,q,B,A,C,G⟩:=pairs_facts ih _ _ _ _ _ _ _ z List.nodup_nil
       rw [List.nil_append] at f
       subst f
       have:=kC t.tail
       rw [List.length_tail] at this
       refine⟨zbM ?_ fun x j=>?_,?_,C,?_⟩
       ·show (yV l&&true&&true&&true)=true
        have:yV l=true:=by
         unfold yV
         rw [Bool.and_eq_true]
         exact⟨List.all_eq_true.2 fun p hp=>(q p hp).2,decide_eq_true B⟩
        rw [this];rfl
       ·have j:x∈l.map (fun p=>p.2):=j
        obtain⟨p,hp,rfl⟩:=List.mem_map.1 j
        exact (q p hp).1
       ·have:zq (d+1) (⟨6,0,⟨#[]⟩,[],l⟩:VS (V d))=1+(l.map (fun p=>zq d p.2)).sum:=by show 1+((l.map (fun p=>p.2)).map (zq d)).sum=_;rw [List.map_map];rfl
        omega
       ·have:zT (d+1) (⟨6,0,⟨#[]⟩,[],l⟩:VS (V d))=(l.map (fun p=>p.1.size)).sum+(l.map (fun p=>zT d p.2)).sum:=by show 0+(l.map (fun p=>p.1.size)).sum+((l.map (fun p=>p.2)).map (zT d)).sum=_;rw [List.map_map,Nat.zero_add];rfl
        rw [KO] at G
        omega
    ·split at a
     ·cases a
     ·rename_i m w hm
      injection a with h;injection h with h1 h2;injection h2 with h2 h3;subst h1;subst h2;subst h3
      obtain⟨i,u⟩:=num_facts hm
      refine⟨k7 ?_,rfl,hc,by rw [(kW _ _ _).2];show 0+_≤_;omega⟩
      show (decide (-9007199254740991≤m∧m≤9007199254740991)&&true&&true&&true)=true
      rw [decide_eq_true i];rfl
   obtain⟨i,u,H,K⟩:=key
   exact⟨i,u,H,Ws⟩
theorem J9 {b:List UInt8}(h:xI b = .inr v):zo 12 v=true∧zq 12 v≤4096∧zT 12 v≤b.length∧b.length≤262144:=by
 unfold xI at h
 split at h
 ·cases h
 split at h
 ·cases h
 ·rename_i f w r c a
  split at h
  ·injection h with h;subst h
   obtain⟨d,h2,h3,e⟩:=ZM 12 _ _ _ _ _ a
   exact⟨d,Ws,Ws,Ws⟩
  ·cases h
open Go.Lib (itoa)
def decV (b:List UInt8):Sum Int (V 12):=
 match xI b with
 | .inl e=>.inl e
 | .inr v=>if xR 12 v=(b,0) then .inr v else .inl 60
theorem Qn {v:V n}{b:List UInt8}:xR n v=(b,0)↔zY n v=0∧(zr n (zI n v)).length≤262144∧b=zr n (zI n v):=by
 unfold xR
 split
 ·rename_i h
  exact⟨fun e=>absurd (Prod.mk.inj e).2 h,fun e=>absurd e.1 h⟩
 ·rename_i h
  have h:zY n v=0:=Decidable.of_not_not h
  split
  ·rename_i h2
   exact⟨(fun e=>absurd (Prod.mk.inj e).2 Wo),fun e=>by omega⟩
  ·rename_i h2
   exact⟨fun e=>⟨h,Ws,(Prod.mk.inj e).1.symm⟩,fun e=>by rw [e.2.2]⟩
theorem dec_enc {b:List UInt8}(h:xR 12 v=(b,0)):decV b = .inr (zI 12 v)∧xI b = .inr (zI 12 v)∧xR 12 (zI 12 v)=(b,0):=by
 obtain⟨a,h2,h3⟩:=Qn.1 h
 obtain⟨c1,c2,c3⟩:=qh.1 ((zbB v).trans a)
 have hp:=parse_write c3 c2 h2
 rw [← h3] at hp
 have d:xR 12 (zI 12 v)=(b,0):=Qn.2 ⟨(zbB v).trans a,by rw [sort_sort];exact h2,by rw [sort_sort];exact h3⟩
 refine⟨?_,hp,d⟩
 unfold decV
 rw [hp]
 exact if_pos d
def ltB (a b:ByteArray):Bool:=decide (a.data.toList<b.data.toList)
section
variable {α : Type} (sub : α → α → List ByteArray)
end
theorem ltB_none (d:¬ ltB a b=true)(h2:¬ ltB b a=true):a=b:=by
 unfold ltB at d h2
 rw [decide_eq_true_iff] at d h2
 exact zak (List.le_antisymm (List.not_lt.1 h2) (List.not_lt.1 d))
theorem ltB_asymm (d:ltB a b=true):¬ ltB b a=true:=by
 unfold ltB at d ⊢
 rw [decide_eq_true_iff] at d ⊢
 exact List.lt_asymm d
def jK (s:List UInt8)(n:Nat):Int:=
 if n=1 then gb s 0 else if n=2 then 64*((gb s 0:Int)-192)+gb s 1-128
 else if n=3 then 64*(64*((gb s 0:Int)-224)+gb s 1-128)+gb s 2-128
 else 64*(64*(64*((gb s 0:Int)-240)+gb s 1-128)+gb s 2-128)+gb s 3-128
def Kf (c:Int):Bool:=decide (0≤c)&&decide (c≤1114111)&&(decide (c<55296) || decide (57343<c))
def k9:Nat→Nat→List UInt8→Int×Nat
 | 0,_,_=>(-1,0)
 | f+1,n,s=>if n≤4∧n≤s.length then (if Kf (jK s n)=true∧yo (jK s n).toNat=s.take n then (jK s n,n) else k9 f (n+1) s) else (-1,0)
def kj (s:List UInt8):Int×Nat:=if s=[]∨((decodeL s).1=65533∧(decodeL s).2=1) then (-1,0) else ((decodeL s).1,(decodeL s).2)
theorem Kx {c:Int}:Kf c=true↔∃ m:Nat,c=m∧(m<55296∨(57344≤m∧m≤1114111)):=by
 unfold Kf
 simp only [Bool.and_eq_true,Bool.or_eq_true,decide_eq_true_eq]
 constructor
 ·intro h
  exact⟨c.toNat,Ws,Ws⟩
 ·rintro ⟨m,rfl,h⟩
  omega
theorem gb_take {i:Nat}(h:i<k):gb (s.take k) i=gb s i:=by
 unfold gb
 rw [List.getD_eq_getElem?_getD,List.getD_eq_getElem?_getD,List.getElem?_take_of_lt h]
theorem code_of {c:Nat}(D:Kr s c k):jK s k=c∧k≤4:=by
 have h:=D.rune
 have hv:=D.valid
 have a:(s.take k).length=k:=by rw [List.length_take];have:=D.le;omega
 have g:∀ i,i<k→gb s i=gb (yo c) i:=fun i l=>by rw [h,gb_take l]
 rw [← h] at a
 rw [qP c hv] at a g
 clear h
 by_cases c1:c<128
 ·rw [if_pos c1] at a g
  have e:k=1:=a.symm
  subst e
  have b:=g 0 Ws
  rw [jo _ _ Ws] at b
  refine⟨?_,Wo⟩
  unfold jK
  rw [if_pos rfl,b]
 rw [if_neg c1] at a g
 by_cases c2:c<2048
 ·rw [if_pos c2] at a g
  have e:k=2:=a.symm
  subst e
  have b:=g 0 Ws
  have d:=g 1 Ws
  rw [jo _ _ Ws] at b
  rw [JD _ _ _ Ws] at d
  refine⟨?_,Wo⟩
  unfold jK
  rw [if_neg Wo,if_pos rfl,b,d]
  omega
 rw [if_neg c2] at a g
 by_cases c3:c<65536
 ·rw [if_pos c3] at a g
  have e:k=3:=a.symm
  subst e
  have b:=g 0 Ws
  have d:=g 1 Ws
  have f:=g 2 Ws
  rw [jo _ _ Ws] at b
  rw [JD _ _ _ Ws] at d
  rw [gb_two _ _ _ _ Ws] at f
  refine⟨?_,Wo⟩
  unfold jK
  rw [if_neg Wo,if_neg Wo,if_pos rfl,b,d,f]
  omega
 ·rw [if_neg c3] at a g
  have e:k=4:=a.symm
  subst e
  have b:=g 0 Ws
  have d:=g 1 Ws
  have f:=g 2 Ws
  have j:=g 3 Ws
  rw [jo _ _ Ws] at b
  rw [JD _ _ _ Ws] at d
  rw [gb_two _ _ _ _ Ws] at f
  rw [gb_three _ _ _ _ _ Ws] at j
  refine⟨?_,Wo⟩
  unfold jK
  rw [if_neg Wo,if_neg Wo,if_neg Wo,b,d,f,j]
  omega
theorem match_of {c:Nat}(hc:c<55296∨(57344≤c∧c≤1114111))(i:n≤s.length)(h:yo c=s.take n):decodeL s=(c,n)∧¬ (c=65533∧n=1)∧s≠[]:=by
 obtain⟨b,h2,h3,j,d⟩:=km c hc
 have a:(yo c).length=n:=by rw [h,List.length_take];omega
 rw [a] at b h2 d
 have f:¬ (c=65533∧n=1):=fun q=>by have:=d q.2;omega
 have D:=vE (l:=yo c) (by intro q;rw [q] at a;simp at a;omega) (by rw [b];exact f)
 rw [b] at D
 have hm:=D.more (s.drop n)
 have e:(yo c).take n=yo c:=List.take_of_length_le Ws
 have hm:decodeL ((yo c).take n++s.drop n)=(c,n):=hm
 rw [e,h,List.take_append_drop] at hm
 exact⟨hm,f,by intro q;subst q;simp at i;omega⟩
theorem nextGo_none:∀ (f n:Nat) (s:List UInt8),(s=[]∨((decodeL s).1=65533∧(decodeL s).2=1))→k9 f n s=(-1,0):=by
 intro f
 induction f with
 | zero=>intro n s _;rfl
 | succ f ih=>
  intro n s h
  unfold k9
  split
  ·rename_i k
   rw [if_neg,ih _ _ h]
   rintro ⟨j,a⟩
   obtain⟨m,e,hm⟩:=Kx.1 j
   rw [e,Int.toNat_natCast] at a
   obtain⟨b,d,i⟩:=match_of hm k.2 a
   rcases h with h | h
   ·exact i h
   ·rw [b] at h;exact d h
  ·rfl
theorem nextGo_some:∀ (f n:Nat) (s:List UInt8) (c k:Nat),Kr s c k→¬ (c=65533∧k=1)→n≤k→k<n+f→k9 f n s=((c:Int),k):=by
 intro f
 induction f with
 | zero=>intro n s c k _ _ l h2;omega
 | succ f ih=>
  intro n s c k D h l h2
  obtain⟨e,r⟩:=code_of D
  have d:=D.le
  unfold k9
  rw [if_pos ⟨Ws,Ws⟩]
  by_cases a:n=k
  ·subst a
   rw [if_pos,e]
   rw [e,Int.toNat_natCast]
   exact⟨Kx.2 ⟨c,rfl,D.valid⟩,D.rune⟩
  ·rw [if_neg]
   ·exact ih (n+1) s c k D h Ws Ws
   ·rintro ⟨j,b⟩
    obtain⟨m,e,hm⟩:=Kx.1 j
    rw [e,Int.toNat_natCast] at b
    obtain⟨i,q,p⟩:=match_of hm Ws b
    have:=D.eq.symm.trans i
    exact a (Prod.mk.inj this).2.symm
theorem nextGo_eq (s:List UInt8):k9 4 1 s=kj s:=by
 unfold kj
 by_cases h:s=[]∨((decodeL s).1=65533∧(decodeL s).2=1)
 ·rw [if_pos h,nextGo_none _ _ _ h]
 ·rw [if_neg h]
  have D:=vE (fun q=>h (.inl q)) (fun q=>h (.inr q))
  exact nextGo_some 4 1 s _ _ D (fun q=>h (.inr q)) D.pos (XC ((code_of D).2))
open Go.RowKit
theorem bV {a b:Bool}(h:a=b):Ending.returned (.bool a) = .returned (.bool b):=by rw [h]
theorem Qi {k:IntKind}{a b:Int}(h:a=b):Ending.returned (.int k a) = .returned (.int k b):=by rw [h]
theorem gb_at (s:ByteArray)(k:Nat)(h:k<s.size):(gb s.data.toList k:Int)=(s[k].toNat:Int):=by
 unfold gb;have a:k<s.data.toList.length:=by simpa using h
 rw [List.getD_eq_getElem?_getD,List.getElem?_eq_getElem a];rfl
theorem Kp (s:ByteArray)(i j:Nat)(a:j≤s.size):(s.extract i j).data.toList=(s.data.toList.take j).drop i:=by
 rw [ByteArray.data_extract,Array.toList_extract,List.extract_eq_take_drop,List.drop_take]
theorem YG (s:ByteArray)(i:Nat):(s.extract i s.size).data.toList=s.data.toList.drop i:=by
 rw [Kp s i s.size (XA),List.take_of_length_le Wz]
theorem may_any (c:Int)(w:World):Calls prog 216 #[.int .i64 c] w fun e w'=>e = .returned (.bool (Kf c))∧w=w':=by
 by_cases b:0≤c
 ·by_cases d:c≤1114111
  ·by_cases h2:c<55296;·have a:Hid (true=Kf c):=qI (by unfold Kf;simp [b,d,h2]);go_enter func216,ntmps216;go_wp2;go_ret;exact⟨bV a.o,rfl⟩
   ·have a:Hid (decide (57343<c)=Kf c):=qI (by unfold Kf;simp [b,d,h2]);go_enter func216,ntmps216;go_wp2;go_ret;exact⟨bV a.o,rfl⟩
  ·have a:Hid (Kf c=false):=qI (by unfold Kf;simp;omega);go_enter func216,ntmps216;go_wp2;go_ret;exact⟨bV a.o.symm,rfl⟩
 ·have a:Hid (Kf c=false):=qI (by unfold Kf;simp;omega);go_enter func216,ntmps216;go_wp2;go_ret;exact⟨bV a.o.symm,rfl⟩
theorem zR {a b:Int}(h:a≠b):(a == b)=false∧(a != b)=true:=by simp [h]
theorem jQ {a b:Nat}(h:a≠b):((a:Int) == (b:Int))=false∧((a:Int) != (b:Int))=true:=zR Ws
theorem toList_inj (h:a.toList=b.toList):a=b:=by
 rw [ByteArray.toList_eq,ByteArray.toList_eq] at h;cases a;cases b;simp only [ByteArray.mk.injEq] at *;exact Array.toList_inj.1 h
theorem jS (h:a≠b):(a.toList == b.toList)=false∧(a.toList != b.toList)=true:=by
 have:a.toList≠b.toList:=fun e=>h (toList_inj e);simp [this]
theorem vu (h:a=b):(a.toList == b.toList)=true∧(a.toList != b.toList)=false:=by
 subst h;simp
theorem xw {a b:Int}(h:a=b):(a == b)=true∧(a != b)=false:=by simp [h]
theorem YT {a b:Nat}(h:a=b):((a:Int) == (b:Int))=true∧((a:Int) != (b:Int))=false:=by simp [h]
def xK (s:ByteArray)(n:Nat):Nat→Int
 | 0=>0
 | 1=>(gb s.data.toList 0:Int)-(if n=2 then 192 else if n=3 then 224 else 240)
 | k+2=>64*xK s n (k+1)+gb s.data.toList (k+1)-128
theorem codeAt_bd (s:ByteArray)(n k:Nat)(a:k≤4):-100000000≤xK s n k∧xK s n k≤100000000:=by
 have h:=Z5 s.data.toList 0;have e:=Z5 s.data.toList 1;have f:=Z5 s.data.toList 2;have d:=Z5 s.data.toList 3;have b:(0:Int)≤(if n=2 then 192 else if n=3 then 224 else 240)∧(if n=2 then 192 else if n=3 then 224 else 240:Int)≤240:=by
  split;·omega
  ·split <;> omega
 match k,a with
 | 0,_=>simp only [xK];omega
 | 1,_=>simp only [xK];omega
 | 2,_=>simp only [xK,Nat.zero_add];omega
 | 3,_=>simp only [xK,Nat.zero_add,Nat.reduceAdd];omega
 | 4,_=>simp only [xK,Nat.zero_add,Nat.reduceAdd];omega
theorem codeAt_all (s:ByteArray)(n:Nat)(h:n=2∨n=3∨n=4):xK s n n=jK s.data.toList n:=by
 rcases h with rfl | rfl | rfl;·simp only [xK,jK,Nat.zero_add,Nat.reduceAdd];simp
 ·simp only [xK,jK,Nat.zero_add,Nat.reduceAdd];simp
 ·simp only [xK,jK,Nat.zero_add,Nat.reduceAdd];simp
theorem codeAt_one (s:ByteArray)(n:Nat):xK s n 1=(gb s.data.toList 0:Int)-(if n=2 then 192 else if n=3 then 224 else 240):=rfl
theorem codeAt_next (s:ByteArray)(n k:Nat)(h:1≤k):xK s n (k+1)=64*xK s n k+gb s.data.toList k-128:=by
 match k,h with
 | k+1,_=>rfl
theorem code_any (s:ByteArray)(n:Nat)(E:1≤n)(C:n≤4)(I:n≤s.size)(q:s.size≤281474976710656)(w:World) : Calls prog 215 #[.string s,.int .i64 n] w fun e w'=>e = .returned (.int .i64 (jK s.data.toList n))∧w=w':=by
 have F:0<s.size:=Ws;have p:=qI (gb_at s 0 F);have D:(s[0].toNat:Int)≤255:=XC (s[0].toNat_lt);have hc:n=1∨n=2∨n=3∨n=4:=Ws;rcases hc with rfl | hc
 ·have j:Hid (jK s.data.toList 1=(s[0].toNat:Int)):=qI (by rw [← p.o];rfl);clear E C;go_enter func215,ntmps215;go_wp2;go_ret;rw [j.o];exact⟨rfl,rfl⟩
 ·have j:=qI (codeAt_all s n hc);have A:Hid (∀ k,k≤4→-100000000≤xK s n k∧xK s n k≤100000000):=qI (codeAt_bd s n);have G:=(jQ (a:=n) (b:=1) Ws).1
  have z:Hid (((((n:Int) == 2)=true∧xK s n 1=(s[0].toNat:Int)-192)∨(((n:Int) == 2)=false∧((n:Int) == 3)=true∧xK s n 1=(s[0].toNat:Int)-224) ∨
    (((n:Int) == 2)=false∧((n:Int) == 3)=false∧((n:Int) == 4)=true∧xK s n 1=(s[0].toNat:Int)-240))):=qI (by
   rw [codeAt_one,p.o];rcases hc with rfl | rfl | rfl <;> simp)
  clear hc;rcases z.o with ⟨t,d⟩ | ⟨t,u,d⟩ | ⟨t,u,H,d⟩
  all_goals
   have B:=qI d;clear d;go_enter func215,ntmps215;go_wp2_with fail;go_loop [5,6] (fun x i=>∃ k:Nat,1≤k∧k≤n∧i = .int .i64 k∧x = .int .i64 (xK s n k)) (fun _ i=>n-(intOf i).toNat);case atStart=>exact⟨1,Ws,Ws,rfl,by rw [B.o]⟩
   case round=>
    obtain⟨k,f,J,rfl,rfl⟩:=hrel;have r:=A.o k Ws;by_cases v:k<n
    ·have m:(k:Int)<n:=by omega
     have h:k<s.size:=Ws;have y:(s[k].toNat:Int)≤255:=XC (s[k].toNat_lt);have l:Hid (xK s n (k+1)=64*xK s n k+(s[k].toNat:Int)-128):=qI (by rw [codeAt_next s n k f,gb_at s k h]);revert r l;generalize xK s n k=X;intro r l;go_wp2_with fail;go_round;case rel=>exact⟨k+1,Ws,Ws,by go_num,by rw [l.o]⟩
     case measure=>simp [intOf];omega
    ·obtain rfl:k=n:=by omega
     go_wp2;go_ret;exact⟨Qi j.o,rfl⟩
theorem bN (n:Nat)(h:n<256):bv (UInt8.ofNat n) = .int .u8 n:=by
 unfold bv;congr 1;have:(UInt8.ofNat n).toNat=n:=by simp [UInt8.toNat_ofNat'];omega
 rw [this]
def kU (c:Int):List Value:=
 if c<128 then [.int .u8 c] else if c<2048 then [.int .u8 (192+c/64),.int .u8 (128+c%64)]
 else if c<65536 then [.int .u8 (224+c/4096),.int .u8 (128+c/64%64),.int .u8 (128+c%64)]
 else [.int .u8 (240+c/262144),.int .u8 (128+c/4096%64),.int .u8 (128+c/64%64),.int .u8 (128+c%64)]
theorem refBytes_int (c:Int)(f:0≤c)(d:c≤1114111)(w:World) : Calls prog 217 #[.int .i64 c] w fun e w'=>e = .returned (.slice (some ⟨w.heap.size,0,none⟩) (kU c).length (kU c).length)∧w'=w.alloc (.cells (kU c).toArray 5):=by
 by_cases b:c<128;·have a:Hid (kU c=[.int .u8 c]):=qI (by unfold kU;rw [if_pos b]);go_enter func217,ntmps217;go_wp2;go_ret;rw [a.o];exact⟨rfl,rfl⟩
 by_cases h2:c<2048;·have a:Hid (kU c=[.int .u8 (192+c/64),.int .u8 (128+c%64)]):=qI (by unfold kU;rw [if_neg b,if_pos h2]);go_enter func217,ntmps217;go_wp2;go_ret;rw [a.o];exact⟨rfl,rfl⟩
 by_cases h3:c<65536;·have a:Hid (kU c=[.int .u8 (224+c/4096),.int .u8 (128+c/64%64),.int .u8 (128+c%64)]):=qI (by unfold kU;rw [if_neg b,if_neg h2,if_pos h3]);go_enter func217,ntmps217;go_wp2;go_ret;rw [a.o];exact⟨rfl,rfl⟩
 ·have a:Hid (kU c=[.int .u8 (240+c/262144),.int .u8 (128+c/4096%64),.int .u8 (128+c/64%64),.int .u8 (128+c%64)]):=qI (by unfold kU;rw [if_neg b,if_neg h2,if_neg h3]);go_enter func217,ntmps217;go_wp2;go_ret;rw [a.o];exact⟨rfl,rfl⟩
theorem zac (m:Nat)(hm:m<55296∨(57344≤m∧m≤1114111)):kU m=(yo m).map bv:=by
 rw [qP m hm];unfold kU;by_cases a:m<128;·rw [if_pos a,if_pos Ws];simp only [List.map_cons,List.map_nil];rw [bN _ Ws]
 rw [if_neg a,if_neg Ws];by_cases h2:m<2048;·rw [if_pos h2,if_pos Ws];simp only [List.map_cons,List.map_nil];rw [bN _ Ws,bN _ Ws];rfl
 rw [if_neg h2,if_neg Ws];by_cases h3:m<65536;·rw [if_pos h3,if_pos Ws];simp only [List.map_cons,List.map_nil];rw [bN _ Ws,bN _ Ws,bN _ Ws];rfl
 ·rw [if_neg h3,if_neg Ws];simp only [List.map_cons,List.map_nil];rw [bN _ Ws,bN _ Ws,bN _ Ws,bN _ Ws];rfl
theorem refBytes_any (m:Nat)(hm:m<55296∨(57344≤m∧m≤1114111))(w:World) : Calls prog 217 #[.int .i64 m] w fun e w'=>(∃ a c,e = .returned (.slice a (yo m).length c)∧zp w' (.slice a (yo m).length c) (yo m))∧zb [] w w':=
 (refBytes_int m Ws Ws w).mono fun e w' ⟨h1,h2⟩=>by
  have b:=zac m hm;have d:(kU m).length=(yo m).length:=by rw [b,List.length_map]
  rw [d] at h1;rw [b] at h2;subst h2;refine⟨⟨_,_,h1,?_⟩,Wd.alloc _⟩;have f:(yo m).length≤4:=(km m hm).2.2.1;exact yv w ((yo m).map bv) 1 (yo m).length 5 w.heap.size rfl Wz (by simp only [maxLen];omega)
end Go.Proofs.YtjccecajigmfkaaGreatDoor

/- Parts of one proof, merged: XVW XVX XVY XVZ. -/
import Derived.Test.YtjccecajigmfkaaGreatDoorSdB
import Derived.Lib.ValidLaws
set_option linter.all false
set_option maxHeartbeats 12800000
set_option maxRecDepth 10000
namespace Go.Proofs.YtjccecajigmfkaaGreatDoor
open Go.Lib (decodeL decDigits itoa)
variable {a:UInt8}{acc:List UInt8}{b:UInt8}{f k:Nat}{r s:List UInt8}{v:Nat}{β:Type}
theorem validS {l:List UInt8}(h:Lib.validD l=true)(a:l≠[]):KE l (decodeL l).1 (decodeL l).2∧Lib.validD (l.drop (decodeL l).2)=true:=by
 rw [Lib.validD_step l a] at h
 split at h
 ·cases h
 ·rename_i hc;exact⟨vo a hc,h⟩
theorem quote_high (h:128≤b.toNat):yn b=[b]:=by
 unfold yn
 rw [XJ Ws,XJ]
 rintro (e | e) <;> (rw [e] at h;revert h;decide)
theorem zar:∀ {l:List UInt8},(∀ b,b∈l→128≤b.toNat)→l.flatMap yn=l
 | [],_=>rfl
 | b::l,h=>by
  rw [um,quote_high (h b (Xp ..)),zar (fun x hx=>h x (Xj _ hx))]
  rfl
theorem zaX (f:Nat)(r acc:List UInt8):yQ (f+1) (34::r) acc = .inr (acc,r):=by
 unfold yQ
 exact XK rfl
theorem unq_esc {n:Nat}{b:List UInt8}(h:jl (92::r)=some (b,n)):yQ (f+1) (92::r) acc=yQ f ((92::r).drop n) (acc++b):=by
 rw [yQ]
 rw [XJ Wo,XJ Wo,XK rfl,h]
theorem JT {c:UInt8}(a:c≠34)(h2:¬ c.toNat<32)(h3:c≠92)(hd:decodeL (c::r)=(v,k))(b:¬ (v=65533∧k=1)) : yQ (f+1) (c::r) acc=yQ f ((c::r).drop k) (acc++(c::r).take k):=by
 rw [yQ]
 rw [XJ a,XJ h2,XJ h3,hd]
 exact XJ b
theorem hex_ctl:∀ n:Fin 32,zaP 48 48 (vO (n.val/16)) (vO (n.val%16))=some n.val:=by decide +kernel
theorem esc_ctl (b:UInt8)(h:b.toNat<32)(r:List UInt8):jl (92::117::48::48::vO (b.toNat/16)::vO (b.toNat%16)::r)=some ([b],6):=by
 have d:qh (92::117::48::48::vO (b.toNat/16)::vO (b.toNat%16)::r)=some b.toNat:=by
  unfold qh
  simp only
  rw [XK ⟨trivial,trivial⟩]
  exact hex_ctl ⟨b.toNat,h⟩
 have a:yi b.toNat=[b]:=by
  rw [kq _ Ws,XK Ws,uR]
 unfold jl
 simp only
 rw [XJ Wo,XJ Wo,XJ Wo,XJ Wo,XJ Wo,XJ Wo,XJ Wo,XJ Wo,d]
 simp only
 rw [XK Ws,a]
theorem esc_sign (b:UInt8)(h:b=34∨b=92)(r:List UInt8):jl (92::b::r)=some ([b],2):=by
 unfold jl
 rcases h with rfl | rfl
 ·exact XK rfl
 ·exact (XJ Wo).trans (XK rfl)
theorem Ke (l x:List UInt8)(k:Nat)(h:k≤l.length):(l.take k++x).drop k=x∧(l.take k++x).take k=l.take k:=by
 have e:(l.take k).length=k:=by rw [Xe];omega
 constructor
 ·exact List.drop_left' e
 ·exact List.take_left' e
theorem unq_quote:∀ (n:Nat) (s:List UInt8) (f:Nat) (rest acc:List UInt8),s.length≤n→Lib.validD s=true→(s.flatMap yn).length<f→yQ f (s.flatMap yn++(34::rest)) acc = .inr (acc++s,rest):=by
 intro n
 induction n with
 | zero=>
  intro s f rest acc G _ h
  match s,G with
  | [],_=>
   match f,h with
   | f+1,_=>rw [Xn];exact zaX f rest acc
 | succ n ih=>
  intro s f rest acc G hv h
  by_cases p:s=[]
  ·subst p
   match f,h with
   | f+1,_=>rw [Xn];exact zaX f rest acc
  obtain⟨D,u⟩:=validS hv p
  revert D u
  generalize (decodeL s).1=v
  generalize (decodeL s).2=k
  intro D u
  have M:=D.pos
  have z:=D.le
  have L:s=s.take k++s.drop k:=(uG k s).symm
  have w:s.flatMap yn=(s.take k).flatMap yn++(s.drop k).flatMap yn:=by rw [← List.flatMap_append,uG]
  rw [w] at h ⊢
  rw [Xv]
  rw [XM] at h
  have A:(s.drop k).length≤n:=by rw [XW];omega
  have a:=fun (f':Nat) (hf':((s.drop k).flatMap yn).length<f') (acc':List UInt8)=>ih (s.drop k) f' rest acc' A u hf'
  revert h a
  generalize (s.drop k).flatMap yn=q
  intro h a
  have d:∀ acc:List UInt8,acc++s.take k++s.drop k=acc++s:=fun acc=>by rw [Xv,uG]
  match f,h with
  | f+1,h=>
  by_cases I:k=1
  ·subst I
   obtain⟨J,x⟩:=D.one rfl
   match s,p with
   | b::t,_=>
    have K:b.toNat<128:=J
    have H:(b::t).take 1=[b]:=rfl
    have hm:=D.more (q++34::rest)
    rw [H] at hm h d ⊢
    simp only [um,List.flatMap_nil,Xn] at h ⊢
    unfold yn at h ⊢
    split at h
    ·rename_i hc
     rw [XK hc]
     show yQ (f+1) (92::117::48::48::vO (b.toNat/16)::vO (b.toNat%16)::(q++34::rest)) acc=_
     rw [unq_esc (esc_ctl b hc _)]
     show yQ f (q++34::rest) (acc++[b])=_
     rw [a f (by simp at h;omega),d]
    ·rename_i hc
     rw [XJ hc]
     split at h
     ·rename_i hd
      rw [XK hd]
      show yQ (f+1) (92::b::(q++34::rest)) acc=_
      rw [unq_esc (esc_sign b hd _)]
      show yQ f (q++34::rest) (acc++[b])=_
      rw [a f (by simp at h;omega),d]
     ·rename_i hd
      rw [XJ hd]
      show yQ (f+1) (b::(q++34::rest)) acc=_
      have E:decodeL (b::(q++34::rest))=(v,1):=hm
      rw [JT (fun e=>hd (.inl e)) hc (fun e=>hd (.inr e)) E (by
       have:v=b.toNat:=x
       omega)]
      show yQ f (q++34::rest) (acc++[b])=_
      rw [a f (by simp at h;omega),d]
  ·have C:2≤k:=by omega
   have B:=D.high C
   rw [zar B] at h ⊢
   have hm:=D.more (q++34::rest)
   obtain⟨l,m⟩:=Ke s (q++34::rest) k z
   have j:(s.take k).length=k:=by rw [Xe];omega
   obtain⟨y,F⟩:∃ y,s.take k=y:=⟨_,rfl⟩
   rw [F] at B h hm l m j ⊢
   have i:=d acc
   rw [F] at i
   clear d L w
   match y,j with
   | c::r,j=>
    have hc:=B c (Xp ..)
    rw [uU] at hm l m ⊢
    rw [JT (by intro e;rw [e] at hc;revert hc;decide) Ws (by intro e;rw [e] at hc;revert hc;decide) hm Ws,l,m]
    rw [a f (by simp at h;omega),i]
   | [],j=>simp at j;omega
theorem zb4 (s rest:List UInt8)(h:Lib.validD s=true):xJ (yJ s++rest) = .inr (s,rest):=by
 have e:yJ s++rest=34::(s.flatMap yn++(34::rest)):=by simp [yJ]
 rw [e]
 unfold xJ
 simp only
 rw [XK trivial]
 have:=unq_quote s.length s ((s.flatMap yn++(34::rest)).length+1) rest [] (XA) h (by rw [XM];omega)
 rw [this,X8]
def Ends (r:List UInt8):Prop:=r=[]∨∃ c t,r=c::t∧(c=44∨c=93∨c=125)
theorem isDig_of (d:Nat)(h:d<10):yh (UInt8.ofNat (48+d))=true∧(UInt8.ofNat (48+d)).toNat=48+d:=by
 have e:(UInt8.ofNat (48+d)).toNat=48+d:=by rw [ui];omega
 refine⟨?_,e⟩
 unfold yh
 rw [e,XR]
 exact⟨XT Ws,XT Ws⟩
theorem zav (l:List UInt8)(c:UInt8):zU (l++[c])=10*zU l+(c.toNat-48):=by
 unfold zU
 rw [List.foldl_append]
 rfl
theorem zac (u:Nat):zU (decDigits u)=u∧(∀ c,c∈decDigits u→yh c=true)∧∃ d t,decDigits u=d::t∧(d=48→t=[]∧u=0):=by
 induction u using Nat.strongRecOn with
 | _ u ih=>
  rw [decDigits]
  split
  ·rename_i h
   obtain⟨a,h2⟩:=isDig_of u h
   refine⟨?_,fun c hc=>?_,_,_,rfl,fun e=>⟨rfl,?_⟩⟩
   ·show 10*0+((UInt8.ofNat (48+u)).toNat-48)=u
    omega
   ·rw [XS.1 hc];exact a
   ·rw [e] at h2
    have:(48:UInt8).toNat=48:=rfl
    omega
  ·rename_i h
   obtain⟨b,i,d,t,j,f⟩:=ih (u/10) Ws
   obtain⟨a,h2⟩:=isDig_of (u%10) Ws
   refine⟨?_,fun c hc=>?_,d,t++[UInt8.ofNat (48+u%10)],by rw [j];rfl,fun e=>?_⟩
   ·rw [zav,b,h2];omega
   ·rcases uO.1 hc with hc | hc
    ·exact i c hc
    ·rw [XS.1 hc];exact a
   ·have:=(f e).2
    omega
theorem dig_ends (h:Ends r):r.takeWhile yh=[]∧jI r [46,101,69]=false:=by
 rcases h with rfl | ⟨c,t,rfl,rfl | rfl | rfl⟩ <;> exact⟨rfl,rfl⟩
theorem num_body (a:Bool)(u:Nat)(r:List UInt8)(h:Ends r)(n:u≤9007199254740991)(hm:a=true→u≠0):jE a (decDigits u++r) = .inr (if a then -(u:Int) else u,r):=by
 obtain⟨i,h2,d,t,h3,l⟩:=zac u
 obtain⟨f,b⟩:=dig_ends h
 have k:(decDigits u++r).takeWhile yh=decDigits u:=by
  rw [List.takeWhile_append_of_pos h2,f,Xn]
 unfold jE
 simp only [k]
 rw [XJ,List.drop_left,b,XJ Wo,XJ Ws,i]
 rintro (e | ⟨f,b⟩)
 ·rw [h3] at e;cases e
 ·rw [h3] at f b
  have hd:d=48:=by simpa using f
  obtain⟨m,j⟩:=l hd
  rcases b with b | b
  ·exact hm b j
  ·rw [m] at b;simp at b
theorem num_write (n:Int)(h:-9007199254740991≤n∧n≤9007199254740991)(r:List UInt8)(a:Ends r):kJ (itoa n++r) = .inr (n,r):=by
 unfold itoa kJ
 by_cases b:n<0
 ·rw [XK b]
  show (if some (45:UInt8)=some 45 then jE true (decDigits n.natAbs++r) else _)=_
  rw [XK rfl,num_body true _ r a Ws (fun _=>by omega)]
  simp only [if_true]
  congr 2
  omega
 ·rw [XJ b]
  obtain⟨_,h2,d,t,h3,_⟩:=zac n.toNat
  have hd:=h2 d (by rw [h3];exact Xp ..)
  have:¬ (decDigits n.toNat++r).head? = some 45:=by
   rw [h3]
   intro e
   have e':d=45:=by simpa using e
   rw [e'] at hd
   revert hd;decide
  rw [XJ this,num_body false _ r a Ws (fun h=>by cases h)]
  simp only [uM,if_false]
  congr 2
  omega
theorem zae (n:Int):∃ d t,itoa n=d::t∧(d=45∨yh d=true):=by
 unfold itoa
 split
 ·exact⟨_,_,rfl,.inl rfl⟩
 ·obtain⟨_,h2,d,t,h3,_⟩:=zac n.toNat
  exact⟨d,t,h3,.inr (h2 d (by rw [h3];exact Xp ..))⟩
theorem xh (h:a≠b)(l t:List UInt8):(a::l).isPrefixOf (b::t)=false:=by
 simp [List.isPrefixOf,h]
theorem kQ {c:UInt8}(t:List UInt8)(h:vh c=false):zo (c::t)=c::t:=by
 unfold zo
 exact List.dropWhile_cons_of_neg (by rw [h];decide)
theorem Ends.skip (h:Ends r):zo r=r:=by
 rcases h with rfl | ⟨c,t,rfl,rfl | rfl | rfl⟩
 ·rfl
 ·exact kQ _ Wo
 ·exact kQ _ Wo
 ·exact kQ _ Wo
theorem dig_cases {c:UInt8}(h:yh c=true):c=48∨c=49∨c=50∨c=51∨c=52∨c=53∨c=54∨c=55∨c=56∨c=57:=by
 unfold yh at h
 rw [XR] at h
 have a:=uy h.1
 have h2:=uy h.2
 have e:c=UInt8.ofNat c.toNat:=UInt8.ofNat_toNat.symm
 have:c.toNat=48∨c.toNat=49∨c.toNat=50∨c.toNat=51∨c.toNat=52∨c.toNat=53∨c.toNat=54∨c.toNat=55∨c.toNat=56∨c.toNat=57:=Ws
 rcases this with h | h | h | h | h | h | h | h | h | h <;> (rw [h] at e;subst e;decide)
def Starts (c:UInt8):Prop:=c=110∨c=116∨c=102∨c=34∨c=91∨c=123∨c=45∨yh c=true
theorem Starts.not {c:UInt8}(h:Starts c):vh c=false∧c≠93∧c≠125:=by
 rcases h with rfl | rfl | rfl | rfl | rfl | rfl | rfl | h
 all_goals first | exact⟨Wo,Wo,Wo⟩ | skip
 rcases dig_cases h with rfl | rfl | rfl | rfl | rfl | rfl | rfl | rfl | rfl | rfl <;> exact⟨Wo,Wo,Wo⟩
section
variable {n : Nat}
theorem JV (v:VS (V n)):zr (n+1) v=if v.kind=1 then [110,117,108,108] else if v.kind=2 then (if v.num=1 then [116,114,117,101] else [102,97,108,115,101]) else if v.kind=3 then itoa v.num else if v.kind=4 then yJ v.s.data.toList else if v.kind=5 then 91::(zS (v.l.map (zr n))++[93]) else 123::(zS (v.m.map (fun p=>yJ p.1.data.toList++(58::zr n p.2)))++[125]):=rfl
theorem zcb (v:VS (V n)):∃ c t,zr (n+1) v=c::t∧Starts c:=by
 rw [JV]
 split
 ·exact⟨_,_,rfl,.inl rfl⟩
 split
 ·split
  ·exact⟨_,_,rfl,.inr (.inl rfl)⟩
  ·exact⟨_,_,rfl,.inr (.inr (.inl rfl))⟩
 split
 ·obtain⟨d,t,h,hd | hd⟩:=zae v.num
  ·exact⟨d,t,h,hd ▸ .inr (.inr (.inr (.inr (.inr (.inr (.inl rfl))))))⟩
  ·exact⟨d,t,h,.inr (.inr (.inr (.inr (.inr (.inr (.inr hd))))))⟩
 split
 ·exact⟨_,_,rfl,.inr (.inr (.inr (.inl rfl)))⟩
 split
 ·exact⟨_,_,rfl,.inr (.inr (.inr (.inr (.inl rfl))))⟩
 ·exact⟨_,_,rfl,.inr (.inr (.inr (.inr (.inr (.inl rfl)))))⟩
theorem write_head':∀ {n:Nat}(v:V n),∃ c t,zr n v=c::t∧Starts c
 | 0,v=>nomatch v
 | _+1,v=>zcb v
end
theorem bP (x:List UInt8)(l:List (List UInt8))(r:List UInt8)(e:UInt8):zS (x::l)++(e::r)=x++(match l with | []=>e::r | y::l=>44::(zS (y::l)++(e::r))):=by
 cases l with
 | nil=>rfl
 | cons y l=>simp [zS]
theorem Q8 (l:List (List UInt8)):l.length≤(zS l).length+1:=by
 induction l with
 | nil=>exact XB
 | cons x l ih=>
  cases l with
  | nil=>simp
  | cons y l=>
   show (y::l).length+1≤(x++(44::zS (y::l))).length+1
   have e:((44:UInt8)::zS (y::l)).length=(zS (y::l)).length+1:=rfl
   rw [XM,e]
   omega
def Reads {α:Type}(sub:List UInt8→Nat→Sum Int (α×List UInt8×Nat))(w:α→List UInt8)(k:α→Nat)(v:α):Prop:=
 ∀ r c,Ends r→c+k v≤4096→sub (w v++r) c = .inr (v,r,c+k v)
theorem read_list {α:Type}{sub:List UInt8→Nat→Sum Int (α×List UInt8×Nat)}{w:α→List UInt8}{k:α→Nat}:∀ (l:List α) (x:α) (f c:Nat) (acc:List α) (r:List UInt8), (∀ y,y∈x::l→Reads sub w k y)→l.length<f→c+((x::l).map k).sum≤4096→YH sub f (zS ((x::l).map w)++(93::r)) c acc = .inr (acc++x::l,r,c+((x::l).map k).sum):=by
 intro l
 induction l with
 | nil=>
  intro x f c acc r h a hc
  match f,a with
  | f+1,_=>
  have:=h x (Xp ..) (93::r) c (.inr ⟨_,_,rfl,.inr (.inl rfl)⟩) (by simpa using hc)
  show YH sub (f+1) (w x++(93::r)) c acc=_
  unfold YH
  rw [this]
  simp
 | cons y l ih=>
  intro x f c acc r h a hc
  match f,a with
  | f+1,a=>
  rw [Xf,uF] at hc
  have b:=h x (Xp ..) (44::(zS ((y::l).map w)++(93::r))) c (.inr ⟨_,_,rfl,.inl rfl⟩) Ws
  have e:zS ((x::y::l).map w)++(93::r)=w x++(44::(zS ((y::l).map w)++(93::r))):=bP ..
  rw [e]
  unfold YH
  rw [b]
  simp only [uH,uE]
  rw [XJ Wo,XK trivial,ih y f (c+k x) (acc++[x]) r (fun z d=>h z (Xj _ d)) (by simp at a;omega) Ws]
  have i:(acc++[x])++y::l=acc++x::y::l:=Wz
  have a2:c+k x+((y::l).map k).sum=c+((x::y::l).map k).sum:=by simp only [Xf,uF];omega
  rw [i,a2]
def jZ {α:Type}(w:α→List UInt8)(p:ByteArray×α):List UInt8:=yJ p.1.data.toList++(58::w p.2)
theorem read_key {s:ByteArray}(h:zv s=true)(r:List UInt8):xJ (zo (yJ s.data.toList++r)) = .inr (s.data.toList,r):=by
 have e:yJ s.data.toList++r=34::((s.data.toList.flatMap yn++[34])++r):=rfl
 rw [e,kQ _ Wo,← e]
 exact zb4 _ _ h
theorem read_pairs {α:Type}{sub:List UInt8→Nat→Sum Int (α×List UInt8×Nat)}{w:α→List UInt8}{k:α→Nat}:∀ (l:List (ByteArray×α)) (x:ByteArray×α) (f c:Nat) (acc:List (ByteArray×α)) (r:List UInt8), (∀ y,y∈x::l→Reads sub w k y.2∧zv y.1=true)→((acc++x::l).map (fun p=>p.1)).Nodup→l.length<f→c+((x::l).map (fun p=>k p.2)).sum≤4096→bt sub f (zS ((x::l).map (jZ w))++(125::r)) c acc = .inr (acc++x::l,r,c+((x::l).map (fun p=>k p.2)).sum):=by
 intro l
 induction l with
 | nil=>
  intro x f c acc r h d i hc
  match f,i with
  | f+1,_=>
  obtain⟨j,h2⟩:=h x (Xp ..)
  have m:=j (125::r) c (.inr ⟨_,_,rfl,.inr (.inr rfl)⟩) (by simpa using hc)
  have e:zS ([x].map (jZ w))++(125::r)=yJ x.1.data.toList++(58::(w x.2++(125::r))):=by simp [zS,jZ]
  have a:acc.any (fun p=>decide (p.1=zw x.1.data.toList))=false:=by
   rw [List.any_eq_false]
   intro p hp b
   have b:=uy b
   rw [JH] at b
   rw [Xc,uz] at d
   exact d.2.2 p.1 (Xm.2 ⟨p,hp,rfl⟩) x.1 Wz b
  rw [e]
  unfold bt
  rw [read_key h2]
  simp only
  rw [a,XJ Wo,kQ _ Wo]
  simp only [uH,uE]
  rw [XK trivial,m]
  simp only [uH,uE]
  rw [XK trivial,JH]
  simp
 | cons y l ih=>
  intro x f c acc r h d i hc
  match f,i with
  | f+1,i=>
  obtain⟨j,h2⟩:=h x (Xp ..)
  rw [Xf,uF] at hc
  have m:=j (44::(zS ((y::l).map (jZ w))++(125::r))) c (.inr ⟨_,_,rfl,.inl rfl⟩) Ws
  have e:zS ((x::y::l).map (jZ w))++(125::r)=yJ x.1.data.toList++(58::(w x.2++(44::(zS ((y::l).map (jZ w))++(125::r))))):=by
   rw [Xf,bP]
   unfold jZ
   rw [Xv,uU]
   rfl
  have a:acc.any (fun p=>decide (p.1=zw x.1.data.toList))=false:=by
   rw [List.any_eq_false]
   intro p hp b
   have b:=uy b
   rw [JH] at b
   rw [Xc,uz] at d
   exact d.2.2 p.1 (Xm.2 ⟨p,hp,rfl⟩) x.1 Wz b
  rw [e]
  unfold bt
  rw [read_key h2]
  simp only
  rw [a,XJ Wo,kQ _ Wo]
  simp only [uH,uE]
  rw [XK trivial,m]
  simp only [uH,uE]
  rw [XJ Wo,XK trivial,JH]
  rw [ih y f (c+k x.2) (acc++[x]) r (fun z n=>h z (Xj _ n)) (by rw [Xv];exact d) (by simp at i;omega) Ws]
  have q:(acc++[x])++y::l=acc++x::y::l:=Wz
  have a2:c+k x.2+((y::l).map (fun p=>k p.2)).sum=c+((x::y::l).map (fun p=>k p.2)).sum:=by simp only [Xf,uF];omega
  rw [q,a2]
section
variable {α : Type} {sub : List UInt8 → Nat → Sum Int (α × List UInt8 × Nat)}
theorem pRead_list {t r:List UInt8}{c a:Nat}{l:List α}(h:¬ (zo t).head? = some 93)(hp:YH sub ((91::t).length+1) (zo t) c [] = .inr (l,r,a)):yK sub (91::t) c = .inr (⟨5,0,⟨#[]⟩,l,[]⟩,r,a):=by
 unfold yK kE kA xO
 rw [xh Wo,xh Wo,xh Wo,XJ Wo,XJ Wo,XJ Wo,uH,XJ Wo,XK rfl,uE,XJ h,hp]
theorem pRead_pairs {t r:List UInt8}{c a:Nat}{m:List (ByteArray×α)}(h:¬ (zo t).head? = some 125)(hp:bt sub ((123::t).length+1) (zo t) c [] = .inr (m,r,a)):yK sub (123::t) c = .inr (⟨6,0,⟨#[]⟩,[],m⟩,r,a):=by
 unfold yK kE kA xO
 rw [xh Wo,xh Wo,xh Wo,XJ Wo,XJ Wo,XJ Wo,uH,XJ Wo,XJ Wo,XK rfl,uE,XJ h,hp]
theorem pRead_text {t:List UInt8}{c:Nat}{s r:List UInt8}(hp:xJ (34::t) = .inr (s,r)):yK sub (34::t) c = .inr (leaf 4 0 (zw s),r,c):=by
 unfold yK kE kA xO
 rw [xh Wo,xh Wo,xh Wo,XJ Wo,XJ Wo,XJ Wo,uH,XK rfl,hp]
end
theorem kids_le {n:Nat}{v:VS (V n)}{c B:Nat}(h:c+zp (n+1) v≤B):(c+1)+(v.l.map (zp n)).sum≤B∧(c+1)+(v.m.map (fun p=>zp n p.2)).sum≤B:=by
 have e:zp (n+1) v=1+(v.kids.map (zp n)).sum:=rfl
 rw [br] at e
 omega
theorem zcg:∀ (n:Nat) (v:V n),zn n v=true→Reads (zl n) (zr n) (zp n) v
 | 0,v,_=>nomatch v
 | n+1,(v:VS (V n)),h=>by
  intro r c hr hc
  obtain⟨b,t,hbt,hb⟩:=zcb v
  have N:=bc h
  have K:=fun x (A:x∈v.kids)=>zcg n x (vY h A)
  have a:zp (n+1) v=1+((v.l.map (zp n)).sum+(v.m.map (fun p=>zp n p.2)).sum):=by rw [← br];rfl
  have w:zo (zr (n+1) v++r)=zr (n+1) v++r:=by
   rw [hbt];exact kQ _ hb.not.1
  have u:yK (zl n) (zr (n+1) v++r) (c+1) = .inr (v,r,c+zp (n+1) v)∧yu (zr (n+1) v++r)=true:=by
   rw [JV]
   rcases vZ N with ⟨i,h2,h3,j,f⟩ | ⟨i,h2,h3,j,f⟩ | ⟨i,h2,h3,j,f⟩ | ⟨i,h2,h3,j,f⟩ | ⟨i,h2,h3,f⟩ | ⟨i,h2,h3,j,f⟩
   ·rw [XK i]
    have e:c+zp (n+1) v=c+1:=by rw [a,j,f];rfl
    have k:v=leaf 1 0 ⟨#[]⟩:=VS.ext' i h2 h3 j f
    rw [e,k]
    exact⟨rfl,rfl⟩
   ·rw [XJ Ws,XK i]
    have e:c+zp (n+1) v=c+1:=by rw [a,j,f];rfl
    rw [e]
    rcases h2 with h2 | h2
    ·have k:v=leaf 2 0 ⟨#[]⟩:=VS.ext' i h2 h3 j f
     rw [XJ Ws,k]
     exact⟨rfl,rfl⟩
    ·have k:v=leaf 2 1 ⟨#[]⟩:=VS.ext' i h2 h3 j f
     rw [XK h2,k]
     exact⟨rfl,rfl⟩
   ·rw [XJ Ws,XJ Ws,XK i]
    have e:c+zp (n+1) v=c+1:=by rw [a,j,f];rfl
    have k:v=leaf 3 v.num ⟨#[]⟩:=VS.ext' i rfl h3 j f
    have J:=num_write v.num h2 r hr
    rw [e]
    obtain⟨d,t,hd,F⟩:=zae v.num
    have E:d=45∨d=48∨d=49∨d=50∨d=51∨d=52∨d=53∨d=54∨d=55∨d=56∨d=57:=F.imp_right dig_cases
    generalize v.num=m at *
    rw [k]
    rw [hd] at J ⊢
    rw [uU] at J ⊢
    have X:d≠110∧d≠116∧d≠102∧d≠34∧d≠91∧d≠123∧jI (d::(t++r)) [34,91,123,45,48,49,50,51,52,53,54,55,56,57]=true:=by
     rcases E with rfl | rfl | rfl | rfl | rfl | rfl | rfl | rfl | rfl | rfl | rfl <;> exact⟨Wo,Wo,Wo,Wo,Wo,Wo,rfl⟩
    obtain⟨O,R,Q,U,M,Y,W⟩:=X
    constructor
    ·unfold yK kE kA xO
     rw [xh O.symm,xh R.symm,xh Q.symm,XJ Wo,XJ Wo,XJ Wo,XJ,XJ,XJ,J]
     ·intro e;exact Y (by simpa using e)
     ·intro e;exact M (by simpa using e)
     ·intro e;exact U (by simpa using e)
    ·unfold yu
     rw [W,Bool.or_true]
   ·rw [XJ Ws,XJ Ws,XJ Ws,XK i]
    have e:c+zp (n+1) v=c+1:=by rw [a,j,f];rfl
    have k:v=leaf 4 0 v.s:=VS.ext' i h2 rfl j f
    have L:=zb4 v.s.data.toList r h3
    have P:=JH v.s
    rw [e]
    generalize v.s=s at *
    rw [k]
    have B:yJ s.data.toList++r=34::((s.data.toList.flatMap yn++[34])++r):=rfl
    constructor
    ·rw [B] at L ⊢
     rw [pRead_text L,P]
    ·rw [B]
     rfl
   ·rw [XJ Ws,XJ Ws,XJ Ws,XJ Ws,XK i]
    have H:∀ x,x∈v.l→Reads (zl n) (zr n) (zp n) x:=fun x A=>K x (YP A)
    have z:=(kids_le hc).1
    have e:c+zp (n+1) v=c+1+(v.l.map (zp n)).sum:=by rw [a,f];simp;omega
    have k:v=⟨5,0,⟨#[]⟩,v.l,[]⟩:=VS.ext' i h2 h3 rfl f
    rw [e]
    generalize v.l=l at *
    rw [k]
    refine⟨?_,rfl⟩
    have B:91::(zS (l.map (zr n))++[93])++r=91::(zS (l.map (zr n))++(93::r)):=Wz
    rw [B]
    cases l with
    | nil=>rfl
    | cons x l=>
     obtain⟨b,t,hbt,hb⟩:=write_head' x
     have C:zS ((x::l).map (zr n))++(93::r)=b::(t++(match l.map (zr n) with | []=>93::r | y::l=>44::(zS (y::l)++(93::r)))):=by
      rw [Xf,bP,hbt];rfl
     have D:zo (zS ((x::l).map (zr n))++(93::r))=zS ((x::l).map (zr n))++(93::r):=by
      rw [C];exact kQ _ hb.not.1
     have G:¬ (zS ((x::l).map (zr n))++(93::r)).head? = some 93:=by
      rw [C];intro q;exact hb.not.2.1 (by simpa using q)
     refine pRead_list (by rw [D];exact G) ?_
     rw [D]
     refine (read_list l x _ (c+1) [] r H ?_ z).trans rfl
     ·have:=Q8 ((x::l).map (zr n))
      rw [Xb,XP] at this
      rw [XP,XM,XP]
      omega
   ·rw [XJ Ws,XJ Ws,XJ Ws,XJ Ws,XJ Ws]
    unfold xe at f
    rw [XR] at f
    have H:∀ x,x∈v.m→Reads (zl n) (zr n) (zp n) x.2∧zv x.1=true:=fun x A=>⟨K x.2 (Zj A),Xk.1 f.1 x A⟩
    have I:=uy f.2
    have z:=(kids_le hc).2
    have e:c+zp (n+1) v=c+1+(v.m.map (fun p=>zp n p.2)).sum:=by rw [a,j];simp;omega
    have k:v=⟨6,0,⟨#[]⟩,[],v.m⟩:=VS.ext' i h2 h3 j rfl
    rw [e]
    generalize v.m=l at *
    rw [k]
    refine⟨?_,rfl⟩
    have B:123::(zS (l.map (fun p=>yJ p.1.data.toList++(58::zr n p.2)))++[125])++r=123::(zS (l.map (jZ (zr n)))++(125::r)):=by
     show 123::(zS (l.map (jZ (zr n)))++[125])++r=_
     simp
    rw [B]
    cases l with
    | nil=>rfl
    | cons x l=>
     have C:zS ((x::l).map (jZ (zr n)))++(125::r)=34::(((x.1.data.toList.flatMap yn++[34])++(58::zr n x.2))++(match l.map (jZ (zr n)) with | []=>125::r | y::l=>44::(zS (y::l)++(125::r)))):=by
      rw [Xf,bP];rfl
     have D:zo (zS ((x::l).map (jZ (zr n)))++(125::r))=zS ((x::l).map (jZ (zr n)))++(125::r):=by
      rw [C];exact kQ _ Wo
     have G:¬ (zS ((x::l).map (jZ (zr n)))++(125::r)).head? = some 125:=by
      rw [C];intro q;exact absurd (Option.some.inj q) Wo
     refine pRead_pairs (by rw [D];exact G) ?_
     rw [D]
     refine (read_pairs l x _ (c+1) [] r H (by rw [X8];exact I) ?_ z).trans rfl
     ·have:=Q8 ((x::l).map (jZ (zr n)))
      rw [Xb,XP] at this
      rw [XP,XM,XP]
      omega
  unfold zl
  rw [w,u.2,XJ Wo,XJ Ws,u.1]
  simp only
  rw [hr.skip]
theorem parse_write {v:V 12}(h:zn 12 v=true)(hc:zp 12 v≤4096)(a:(zr 12 v).length≤262144):yH (zr 12 v) = .inr v:=by
 have:=zcg 12 v h [] 0 (.inl rfl) Ws
 rw [Xn] at this
 unfold yH
 rw [XJ Ws,this]
 exact XK rfl
open Go.Lib (itoa)
def kR {α β:Type}(f:α→β)(p:ByteArray×α):ByteArray×β:=(p.1,f p.2)
section
variable {n : Nat}
theorem Zm (v:VS (V n)):zK (n+1) v=(⟨v.kind,v.num,v.s,v.l.map (zK n),(v.m.map (kR (zK n))).mergeSort leK⟩:VS (V n)):=rfl
theorem j9 (v:VS (V n)):((v.m.map (kR (zK n))).mergeSort leK).Perm (v.m.map (kR (zK n))):=List.mergeSort_perm _ _
theorem maxL_perm {a b:List Nat}(h:a.Perm b):kG a=kG b:=
 Nat.le_antisymm (ZZ.2 fun x d=>le_maxL (h.mem_iff.1 d)) (ZZ.2 fun x d=>le_maxL (h.mem_iff.2 d))
end
theorem Z4:∀ (n:Nat) (v:V n),zp n (zK n v)=zp n v
 | 0,v=>nomatch v
 | n+1,(v:VS (V n))=>by
  have ih:=Z4 n
  have e:∀ u:VS (V n),zp (n+1) u=1+((u.l.map (zp n)).sum+(u.m.map (fun p=>zp n p.2)).sum):=fun u=>by rw [← br];rfl
  rw [e v]
  rw [Zm]
  rw [e]
  simp only
  have h:=((j9 v).map (fun p=>zp n p.2)).sum_nat
  rw [h]
  simp only [uL,Function.comp_def,kR,ih]
theorem Kq:∀ (n:Nat) (v:V n),zW n (zK n v)=zW n v
 | 0,v=>nomatch v
 | n+1,(v:VS (V n))=>by
  have ih:=Kq n
  have e:∀ u:VS (V n),zW (n+1) u=u.s.size+(u.m.map (fun p=>p.1.size)).sum+((u.l.map (zW n)).sum+(u.m.map (fun p=>zW n p.2)).sum):=fun u=>by rw [← br];rfl
  rw [e v]
  rw [Zm]
  rw [e]
  simp only
  have h:=((j9 v).map (fun p=>zW n p.2)).sum_nat
  have h2:=((j9 v).map (fun p=>p.1.size)).sum_nat
  rw [h,h2]
  simp only [uL,Function.comp_def,kR,ih]
theorem zbm:∀ (n:Nat) (v:V n),zM n (zK n v)=zM n v
 | 0,v=>nomatch v
 | n+1,(v:VS (V n))=>by
  have ih:=zbm n
  have e:∀ u:VS (V n),zM (n+1) u=1+max (kG (u.l.map (zM n))) (kG (u.m.map (fun p=>zM n p.2))):=fun u=>by
   show 1+kG ((u.l++u.m.map (fun p=>p.2)).map (zM n))=_
   rw [Xc,zbF,uL]
   rfl
  rw [e v]
  rw [Zm]
  rw [e]
  simp only
  have h:=maxL_perm ((j9 v).map (fun p=>zM n p.2))
  rw [h]
  simp only [uL,Function.comp_def,kR,ih]
theorem own_same {α:Type}{w:VS α}{v:VS β}(a:w.kind=v.kind)(h2:w.num=v.num)(h3:w.s=v.s)(d:w.l.isEmpty=v.l.isEmpty)(b:w.m.isEmpty=v.m.isEmpty)(h6:xe w.m=xe v.m):zy w=zy v:=by
 unfold zy
 rw [a,h2,h3,d,b,h6]
theorem keys_perm {α:Type}{a:List (ByteArray×α)}{b:List (ByteArray×β)}(h:(a.map (fun p=>p.1)).Perm (b.map (fun p=>p.1))):xe a=xe b:=by
 have e:∀ {γ:Type}(l:List (ByteArray×γ)),xe l=((l.map (fun p=>p.1)).all zv&&decide ((l.map (fun p=>p.1)).Nodup)):=fun l=>by
  unfold xe
  rw [List.all_map]
  rfl
 rw [e,e,h.all_eq]
 congr 1
 exact decide_eq_decide.2 h.nodup_iff
theorem YC:∀ (n:Nat) (v:V n),zn n (zK n v)=zn n v
 | 0,v=>nomatch v
 | n+1,(v:VS (V n))=>by
  have ih:=YC n
  have e:∀ u:VS (V n),zn (n+1) u=(zy u&&(u.l.all (zn n)&&u.m.all (fun p=>zn n p.2))):=fun u=>by
   show (zy u&&(u.l++u.m.map (fun p=>p.2)).all (zn n))=_
   rw [VH,List.all_map]
   rfl
  rw [e v]
  rw [Zm]
  rw [e]
  have a:zy (⟨v.kind,v.num,v.s,v.l.map (zK n),(v.m.map (kR (zK n))).mergeSort leK⟩:VS (V n))=zy v:=by
   refine own_same rfl rfl rfl ?_ ?_ ?_
   ·simp only [List.isEmpty_map]
   ·rw [Bool.eq_iff_iff]
    simp only [List.isEmpty_iff_length_eq_zero,List.length_mergeSort,Xb]
   ·refine (keys_perm ((j9 v).map (fun p=>p.1))).trans ?_
    unfold xe
    simp only [List.all_map,uL,Function.comp_def,kR]
  rw [a]
  simp only
  rw [(j9 v).all_eq]
  simp only [List.all_map,Function.comp_def,kR,ih]
theorem zcf {n:Nat}(v:V n):zV n (zK n v)=zV n v:=by
 unfold zV
 rw [zbm,Z4,YC]
def OrdV:(n:Nat)→V n→Prop
 | 0,_=>True
 | n+1,(v:VS (V n))=>v.m.Pairwise (fun a b=>leK a b=true)∧(∀ x,x∈v.l→OrdV n x)∧∀ p,p∈v.m→OrdV n p.2
theorem ord_sort:∀ (n:Nat) (v:V n),OrdV n (zK n v)
 | 0,v=>nomatch v
 | n+1,(v:VS (V n))=>by
  have ih:=ord_sort n
  refine⟨List.pairwise_mergeSort leK_trans leK_total _,fun x a=>?_,fun p hp=>?_⟩
  ·obtain⟨y,_,rfl⟩:=Xm.1 a
   exact ih y
  ·have hp:=(j9 v).mem_iff.1 hp
   obtain⟨y,_,rfl⟩:=Xm.1 hp
   exact ih y.2
theorem sort_id:∀ (n:Nat) (v:V n),OrdV n v→zK n v=v
 | 0,v,_=>nomatch v
 | n+1,(v:VS (V n)),h=>by
  obtain⟨h1,h2,h3⟩:=h
  have b:v.l.map (zK n)=v.l:=(un fun x d=>sort_id n x (h2 x d)).trans (List.map_id' _)
  have a:v.m.map (kR (zK n))=v.m:=(un (g:=id) fun p hp=>Prod.ext (x:=kR (zK n) p) (y:=p) rfl (sort_id n p.2 (h3 p hp))).trans (List.map_id _)
  rw [Zm,b,a,List.mergeSort_of_pairwise h1]
theorem sort_sort (n:Nat)(v:V n):zK n (zK n v)=zK n v:=sort_id n _ (ord_sort n v)
theorem J3 (s:List UInt8):(yJ s).length≤6*s.length+2:=by
 have h:(s.flatMap yn).length≤6*s.length:=by
  induction s with
  | nil=>simp
  | cons b s ih=>
   rw [um,XM,XP]
   have:(yn b).length≤6:=by
    unfold yn
    split
    ·simp
    ·split <;> simp
   omega
 unfold yJ
 rw [XP,XM]
 simp only [XP,Xo]
 omega
theorem Ki:∀ (l:List (List UInt8)),(zS l).length≤(l.map (fun x=>x.length+1)).sum
 | []=>XA
 | [x]=>by simp [zS]
 | x::y::l=>by
  have:=Ki (y::l)
  have e:(zS (x::y::l)).length=x.length+((zS (y::l)).length+1):=by simp [zS]
  rw [e,Xf,uF]
  omega
theorem itoa_len (n:Int)(h:-9007199254740991≤n∧n≤9007199254740991):(itoa n).length≤21:=Lib.itoa_length_le n Ws Ws
theorem sum_lin {α:Type}(f g h:α→Nat)(a b:Nat)(l:List α)(d:∀ x,x∈l→f x≤a*g x+b*h x):(l.map f).sum≤a*(l.map g).sum+b*(l.map h).sum:=by
 rw [← sum_mul,← sum_mul,← zaY]
 exact zb1 l d
theorem QG:∀ (n:Nat) (v:V n),zn n v=true→(zr n v).length+6≤6*zW n v+30*zp n v
 | 0,v,_=>nomatch v
 | n+1,(v:VS (V n)),h=>by
  have ih:=fun x (d:x∈v.kids)=>QG n x (vY h d)
  have i:zp (n+1) v=1+((v.l.map (zp n)).sum+(v.m.map (fun p=>zp n p.2)).sum):=by rw [← br];rfl
  have f:zW (n+1) v=v.s.size+(v.m.map (fun p=>p.1.size)).sum+((v.l.map (zW n)).sum+(v.m.map (fun p=>zW n p.2)).sum):=by rw [← br];rfl
  rw [JV]
  rcases vZ (bc h) with ⟨h1,h2,h3,h4,h5⟩ | ⟨h1,h2,h3,h4,h5⟩ | ⟨h1,h2,h3,h4,h5⟩ | ⟨h1,h2,h3,h4,h5⟩ | ⟨h1,h2,h3,h5⟩ | ⟨h1,h2,h3,h4,h5⟩
  ·rw [XK h1];simp only [XP,Xo];omega
  ·rw [XJ Ws,XK h1]
   split <;> (simp only [XP,Xo];omega)
  ·rw [XJ Ws,XJ Ws,XK h1]
   have:=itoa_len v.num h2
   omega
  ·rw [XJ Ws,XJ Ws,XJ Ws,XK h1]
   have:=J3 v.s.data.toList
   have e:v.s.data.toList.length=v.s.size:=rfl
   omega
  ·rw [XJ Ws,XJ Ws,XJ Ws,XJ Ws,XK h1]
   have a:=Ki (v.l.map (zr n))
   rw [uL] at a
   have b:=sum_lin ((fun x=>x.length+1) ∘ zr n) (zW n) (zp n) 6 30 v.l (fun x d=>by
    have:=ih x (YP d)
    show (zr n x).length+1≤_
    omega)
   rw [XP,XM]
   simp only [XP,Xo]
   omega
  ·rw [XJ Ws,XJ Ws,XJ Ws,XJ Ws,XJ Ws]
   have a:=Ki (v.m.map (jZ (zr n)))
   rw [uL] at a
   have b:=sum_lin ((fun x=>x.length+1) ∘ jZ (zr n)) (fun p=>p.1.size+zW n p.2) (fun p=>zp n p.2) 6 30 v.m (fun p hp=>by
    have:=ih p.2 (Zj hp)
    have q:=J3 p.1.data.toList
    have e:p.1.data.toList.length=p.1.size:=rfl
    show (yJ p.1.data.toList++(58::zr n p.2)).length+1≤6*(p.1.size+zW n p.2)+30*zp n p.2
    rw [XM,XP]
    omega)
   rw [zaY] at b
   rw [XP,XM]
   simp only [XP,Xo]
   have e:(zS (v.m.map (fun p=>yJ p.1.data.toList++(58::zr n p.2)))).length=(zS (v.m.map (jZ (zr n)))).length:=rfl
   omega
open Go.Lib (decodeL decodeN)
theorem valid_app:∀ (k:Nat) (a b:List UInt8),a.length≤k→Lib.validD a=true→Lib.validD b=true→Lib.validD (a++b)=true:=by
 intro k;induction k with
 | zero=>
  intro a b h _ f
  match a,h with
  | [],_=>exact f
 | succ k ih=>
  intro a b h n f;by_cases d:a=[];·subst d;exact f
  obtain⟨D,hv⟩:=validS n d;revert D hv;generalize (decodeL a).1=v;generalize (decodeL a).2=j;intro D hv;have p:=D.pos;have h2:=D.le;have e:a++b=a.take j++(a.drop j++b):=by rw [← Xv,uG]
  have hd:=D.more (a.drop j++b);obtain⟨l,_⟩:=Ke a (a.drop j++b) j h2;rw [e,Lib.validD_step _ (by intro q;have:=congrArg List.length q;rw [XM,Xe,Xo] at this;omega),hd];rw [XJ,l];·exact ih _ _ (by rw [XW];omega) hv f
  ·rintro ⟨m,i⟩;have m:v=65533:=m;have i:j=1:=i;obtain⟨r,s⟩:=D.one i;omega
theorem valid_taken (D:KE s v k):Lib.validD (s.take k)=true:=by
 have d:=D.pos;have h2:=D.le;have hd:=D.more [];rw [Xn] at hd;rw [Lib.validD_step _ (by intro q;have:=congrArg List.length q;rw [Xe,Xo] at this;omega),hd,XJ]
 ·have:(s.take k).drop k=[]:=by rw [List.drop_eq_nil_iff,Xe];omega
  show Lib.validD ((s.take k).drop k)=true;rw [this];rfl
 ·rintro ⟨b,a⟩;have b:v=65533:=b;have a:k=1:=a;obtain⟨f,e⟩:=D.one a;omega
theorem jF (a:Nat)(t:List UInt8)(h:a<256):gb (UInt8.ofNat a::t) 0=a:=by
 show (UInt8.ofNat a).toNat=a;rw [ui];omega
theorem JO (x:UInt8)(a:Nat)(t:List UInt8)(h:a<256):gb (x::UInt8.ofNat a::t) 1=a:=jF a t h
theorem gb_two (x y:UInt8)(a:Nat)(t:List UInt8)(h:a<256):gb (x::y::UInt8.ofNat a::t) 2=a:=jF a t h
theorem gb_three (x y z:UInt8)(a:Nat)(t:List UInt8)(h:a<256):gb (x::y::z::UInt8.ofNat a::t) 3=a:=jF a t h
theorem kM (c:Nat)(h:c<55296∨(57344≤c∧c≤1114111)):decodeL (yi c)=(c,(yi c).length)∧1≤(yi c).length∧(yi c).length≤4∧(c<65536→(yi c).length≤3)∧((yi c).length=1→c<128):=by
 rw [kq c h];by_cases c1:c<128;·rw [XK c1,ke,jF _ _ Ws];refine⟨?_,XA,Wz,fun _=>by simp,fun _=>c1⟩;unfold decodeN;rw [XK c1];rfl
 rw [XJ c1];by_cases c2:c<2048;·rw [XK c2,ke,jF _ _ Ws,JO _ _ _ Ws];refine⟨?_,Wz,Wz,fun _=>by simp,fun q=>by simp at q⟩;unfold decodeN;rw [XJ Ws,XK ⟨Ws,Wz,Ws⟩,XK Ws];exact Prod.ext (by show _=c;omega) rfl
 rw [XJ c2];by_cases c3:c<65536;·rw [XK c3,ke,jF _ _ Ws,JO _ _ _ Ws,gb_two _ _ _ _ Ws];refine⟨?_,Wz,Wz,fun _=>by simp,fun q=>by simp at q⟩;unfold decodeN;rw [XJ Ws,XJ Ws,XK ⟨Ws,⟨Wz,Ws⟩,Wz,Ws⟩,XK Ws];exact Prod.ext (by show _=c;omega) rfl
 ·rw [XJ c3,ke,jF _ _ Ws,JO _ _ _ Ws,gb_two _ _ _ _ Ws,gb_three _ _ _ _ _ Ws];refine⟨?_,Wz,Wz,fun _=>by omega,fun q=>by simp at q⟩;unfold decodeN;rw [XJ Ws,XJ Ws,XJ Ws,XK ⟨Ws,⟨Wz,Ws⟩,⟨Wz,Ws⟩,Wz,Ws⟩,XK Ws];exact Prod.ext (by show _=c;omega) rfl
theorem valid_one {y:List UInt8}{c:Nat}(d:decodeL y=(c,y.length))(h2:1≤y.length)(e:y.length=1→c<128):Lib.validD y=true:=by
 rw [Lib.validD_step _ (by intro q;rw [q] at h2;simp at h2),d,XJ];·show Lib.validD (y.drop y.length)=true;rw [uV];rfl
 ·rintro ⟨a,b⟩;have a:c=65533:=a;have:=e b;omega
theorem zcl (c:Nat)(h:c<55296∨(57344≤c∧c≤1114111)):Lib.validD (yi c)=true:=by
 obtain⟨a,h2,_,_,b⟩:=kM c h;exact valid_one a h2 b
theorem KU {c:UInt8}{n:Nat}(h:km c=some n):n<16:=by
 unfold km at h;split at h;·rename_i q;injection h with h;omega
 split at h;·rename_i q;injection h with h;omega
 split at h;·rename_i q;injection h with h;omega
 ·cases h
theorem hex4_lt {c d:UInt8}{n:Nat}(h:zaP a b c d=some n):n<65536:=by
 unfold zaP at h;split at h;·rename_i e h2 h3 f;injection h with h;have:=KU e;have:=KU h2;have:=KU h3;have:=KU f;omega
 ·cases h
theorem qS {n:Nat}(h:qh s=some n):n<65536∧6≤s.length:=by
 unfold qh at h;split at h
 ·split at h;·exact⟨hex4_lt h,by simp only [XP];omega⟩
  ·cases h
 ·cases h
theorem QC {b:List UInt8}{n:Nat}(h:jl s=some (b,n)):Lib.validD b=true∧b.length≤n∧1≤n∧n≤s.length:=by
 unfold jl at h;split at h
 ·rename_i x y t;have a:2≤(x::y::t).length:=by simp only [XP];omega
  revert a;generalize x::y::t=s at h;intro a
  iterate 8
   split at h;·injection h with h;injection h with h1 h2;subst h1;subst h2;exact⟨Wo,Wo,Wo,a⟩
  split at h;·cases h
  ·rename_i x m;obtain⟨j,k⟩:=qS m;split at h;·rename_i hc;injection h with h;injection h with h1 h2;subst h1;subst h2;have hv:x<55296∨(57344≤x∧x≤1114111):=Ws;obtain⟨_,_,_,f,_⟩:=kM x hv;have:=f j;exact⟨zcl x hv,Ws,Wo,k⟩
   ·rename_i hc;split at h;·cases h
    ·rename_i l;split at h;·cases h
     ·rename_i z i;obtain⟨_,e⟩:=qS i;rw [XW] at e;split at h;·rename_i d;injection h with h;injection h with h1 h2;subst h1;subst h2;have hv:65536+(x-55296)*1024+(z-56320)<55296∨(57344≤65536+(x-55296)*1024+(z-56320)∧65536+(x-55296)*1024+(z-56320)≤1114111):=Ws;obtain⟨_,_,p,_,_⟩:=kM _ hv;exact⟨zcl _ hv,Ws,Wo,Ws⟩
      ·cases h
 ·cases h
theorem unqGo_facts:∀ (f:Nat) (s acc t r:List UInt8),yQ f s acc = .inr (t,r)→Lib.validD acc=true→Lib.validD t=true∧t.length+r.length<acc.length+s.length:=by
 intro f;induction f with
 | zero=>intro s acc t r h;cases h
 | succ f ih=>
  intro s acc t r h hv;unfold yQ at h;split at h;·cases h
  ·rename_i c e;split at h;·injection h with h;injection h with i h2;subst i;subst h2;exact⟨hv,by simp only [XP];omega⟩
   split at h;·cases h
   split at h
   ·split at h;·cases h
    ·rename_i b n j;obtain⟨l,p,u,w⟩:=QC j;obtain⟨d,a⟩:=ih _ _ _ _ h (valid_app _ _ _ (XA) hv l);rw [XM,XW] at a;exact⟨d,Ws⟩
   split at h;·cases h
   ·rename_i m;have D:=vo (by intro q;cases q) m;revert D h;generalize (decodeL (c::e)).1=v;generalize (decodeL (c::e)).2=k;intro h D;have i:=D.pos;have h2:=D.le;obtain⟨d,a⟩:=ih _ _ _ _ h (valid_app _ _ _ (XA) hv (valid_taken D));rw [XM,XW,Xe] at a;exact⟨d,Ws⟩
theorem QI {t:List UInt8}(h:xJ s = .inr (t,r)):Lib.validD t=true∧t.length+r.length<s.length:=by
 unfold xJ at h;split at h;·cases h
 ·split at h;·obtain⟨a,b⟩:=unqGo_facts _ _ _ _ _ h rfl;exact⟨a,by simp only [XP,Xo] at b ⊢;omega⟩
  ·cases h
theorem qQ (s:List UInt8):(zo s).length≤s.length:=(List.dropWhile_sublist _).length_le
theorem JZ {n:Int}(h:kJ s = .inr (n,r)):(-9007199254740991≤n∧n≤9007199254740991)∧r.length≤s.length:=by
 have b:∀ (m:Bool) (s:List UInt8),jE m s = .inr (n,r)→(-9007199254740991≤n∧n≤9007199254740991)∧r.length≤s.length:=by
  intro m s h;unfold jE at h;simp only at h;split at h;·cases h
  split at h;·cases h
  split at h;·cases h
  ·rename_i d;injection h with h;injection h with a h2;subst h2;rw [XW];refine⟨?_,Ws⟩;split at a <;> omega
 unfold kJ at h;split at h;·obtain⟨a,h2⟩:=b _ _ h;rw [uA] at h2;exact⟨a,Ws⟩
 ·exact b _ _ h
def ReadOk {α:Type}(good:α→Prop)(cnt byt:α→Nat)(sub:List UInt8→Nat→Sum Int (α×List UInt8×Nat)):Prop:=
 ∀ s c v r c',sub s c = .inr (v,r,c')→good v∧c'=c+cnt v∧c'≤4096∧byt v+r.length≤s.length
section
variable {α : Type} {good : α → Prop} {cnt byt : α → Nat} {sub : List UInt8 → Nat → Sum Int (α × List UInt8 × Nat)}
theorem list_facts (k:ReadOk good cnt byt sub):∀ (f:Nat) (s:List UInt8) (c:Nat) (acc l:List α) (r:List UInt8) (c':Nat),YH sub f s c acc = .inr (l,r,c')→∃ l',l=acc++l'∧(∀ x,x∈l'→good x)∧c'=c+(l'.map cnt).sum∧c'≤4096∧(l'.map byt).sum+r.length≤s.length:=by
 intro f;induction f with
 | zero=>intro s c acc l r c' h;cases h
 | succ f ih=>
  intro s c acc l r c' h;unfold YH at h;split at h;·cases h
  ·rename_i v p c0 hv;obtain⟨b,e,n,q⟩:=k _ _ _ _ _ hv;split at h;·injection h with h;injection h with h1 h2;injection h2 with h2 h3;subst h1;subst h2;subst h3;exact⟨[v],rfl,fun x a=>XS.1 a ▸ b,by simpa using e,n,by simp [uA];omega⟩
   split at h
   ·obtain⟨l',d,j,t,m,i⟩:=ih _ _ _ _ _ _ h;refine⟨v::l',by rw [d];simp,fun x a=>?_,by rw [Xf,uF];omega,m,?_⟩
    ·rcases XY.1 a with rfl | a;·exact b
     ·exact j x a
    ·rw [uA] at i;rw [Xf,uF];omega
   ·cases h
theorem pairs_facts (A:ReadOk good cnt byt sub):∀ (f:Nat) (s:List UInt8) (c:Nat) (acc l:List (ByteArray×α)) (r:List UInt8) (c':Nat),bt sub f s c acc = .inr (l,r,c')→(acc.map (fun p=>p.1)).Nodup→∃ l',l=acc++l'∧(∀ x,x∈l'→good x.2∧zv x.1=true)∧(l.map (fun p=>p.1)).Nodup∧c'=c+(l'.map (fun p=>cnt p.2)).sum∧c'≤4096∧(l'.map (fun p=>p.1.size+byt p.2)).sum+r.length≤s.length:=by
 intro f;induction f with
 | zero=>intro s c acc l r c' h;cases h
 | succ f ih=>
  intro s c acc l r c' h I;unfold bt at h;split at h;·cases h
  ·rename_i k t y;obtain⟨E,K⟩:=QI y;have L:=qQ s;split at h;·cases h
   rename_i m;split at h
   ·split at h;·cases h
    ·rename_i v M c1 hv;obtain⟨q,w,F,C⟩:=A _ _ _ _ _ hv;have N:=qQ t;rw [uA] at C;have d:zv (zw k)=true:=by unfold zv;rw [zJ];exact E
     have J:(zw k).size=k.length:=by have e:(zw k).data.toList.length=(zw k).size:=rfl;rw [← e,zJ]
     have i:((acc++[(zw k,v)]).map (fun p=>p.1)).Nodup:=by
      rw [Xc,uz];refine⟨I,Wz,fun a z b n e=>?_⟩;obtain⟨p,hp,rfl⟩:=Xm.1 z;have n:b=zw k:=by simpa using n
      exact m (List.any_eq_true.2 ⟨p,hp,XT (e.trans n)⟩)
     split at h;·injection h with h;injection h with h1 h2;injection h2 with h2 h3;subst h1;subst h2;subst h3;refine⟨[(zw k,v)],rfl,fun x j=>by rw [XS.1 j];exact⟨q,d⟩,i,by simpa using w,F,?_⟩;rw [uA];simp only [Xf,X3,uF,List.sum_nil];omega
     split at h
     ·obtain⟨l',u,D,G,O,H,B⟩:=ih _ _ _ _ _ _ h i;refine⟨(zw k,v)::l',by rw [u];simp,fun x j=>?_,G,by rw [Xf,uF];simp only;omega,H,?_⟩
      ·rcases XY.1 j with rfl | j;·exact⟨q,d⟩
       ·exact D x j
      ·rw [uA] at B;rw [Xf,uF];simp only;omega
     ·cases h
   ·cases h
end
theorem ju {n:Nat}(k m:Int)(s:ByteArray):zp (n+1) (leaf k m s:VS (V n))=1∧zW (n+1) (leaf k m s:VS (V n))=s.size:=⟨rfl,by show s.size+0+0=s.size;omega⟩
theorem zcd {n:Nat}{v:VS (V n)}(a:zy v=true)(h2:∀ x,x∈v.kids→zn n x=true):zn (n+1) v=true:=by
 show (zy v&&v.kids.all (zn n))=true;rw [XR];exact⟨a,Xk.2 h2⟩
theorem jn {n:Nat}{k m:Int}{s:ByteArray}(h:zy (leaf k m s:VS (V n))=true):zn (n+1) (leaf k m s:VS (V n))=true:=zcd h (fun x a=>by cases a)
theorem Z6:∀ (d:Nat),ReadOk (fun v=>zn d v=true) (zp d) (zW d) (zl d):=by
 intro d;induction d with
 | zero=>intro s c v;exact nomatch v
 | succ d ih=>
  intro s c v r J h;unfold zl at h;split at h;·cases h
  split at h;·cases h
  rename_i E hc;have hc:c+1≤4096:=Ws;split at h;·cases h
  ·rename_i v0 A c0 a;injection h with h;injection h with h1 h2;injection h2 with h2 h3;subst h1;subst h2;subst h3;have z:=qQ s;have n:=qQ A;have key:zn (d+1) v0=true∧c0=c+zp (d+1) v0∧c0≤4096∧zW (d+1) v0+A.length≤(zo s).length:=by
    clear z n E;generalize zo s=t at a;unfold yK at a;split at a;·injection a with h;injection h with h1 h2;injection h2 with h2 h3;subst h1;subst h2;subst h3;exact⟨jn rfl,rfl,hc,by rw [(ju _ _ _).2,XW];show 0+_≤_;omega⟩
    split at a;·injection a with h;injection h with h1 h2;injection h2 with h2 h3;subst h1;subst h2;subst h3;exact⟨jn rfl,rfl,hc,by rw [(ju _ _ _).2,XW];show 0+_≤_;omega⟩
    split at a;·injection a with h;injection h with h1 h2;injection h2 with h2 h3;subst h1;subst h2;subst h3;exact⟨jn rfl,rfl,hc,by rw [(ju _ _ _).2,XW];show 0+_≤_;omega⟩
    split at a
    ·split at a;·cases a
     ·rename_i k w G;injection a with h;injection h with h1 h2;injection h2 with h2 h3;subst h1;subst h2;subst h3;obtain⟨j,u⟩:=QI G;have f:zv (zw k)=true:=by unfold zv;rw [zJ];exact j
      have I:(zw k).size=k.length:=by have e:(zw k).data.toList.length=(zw k).size:=rfl;rw [← e,zJ]
      refine⟨jn ?_,rfl,hc,by rw [(ju _ _ _).2];omega⟩;show (zv (zw k)&&true&&true&&true)=true;rw [f];rfl
    split at a
    ·split at a;·injection a with h;injection h with h1 h2;injection h2 with h2 h3;subst h1;subst h2;subst h3;refine⟨jn rfl,rfl,hc,?_⟩;have:=qQ t.tail;rw [uA] at this;rw [(ju _ _ _).2,uA];show 0+_≤_;omega
     ·split at a;·cases a
      ·rename_i l w c1 y;injection a with h;injection h with h1 h2;injection h2 with h2 h3;subst h1;subst h2;subst h3;obtain⟨l',b,q,B,D,C⟩:=list_facts ih _ _ _ _ _ _ _ y;rw [X8] at b;subst b;have:=qQ t.tail;rw [uA] at this;refine⟨zcd rfl fun x i=>?_,?_,D,?_⟩;·exact q x (by simpa [VS.kids] using i)
       ·have:zp (d+1) (⟨5,0,⟨#[]⟩,l,[]⟩:VS (V d))=1+((l.map (zp d)).sum+0):=by rw [← Nat.add_zero (List.sum _)];show 1+((l++[]).map (zp d)).sum=_;rw [Xn];omega
        omega
       ·have:zW (d+1) (⟨5,0,⟨#[]⟩,l,[]⟩:VS (V d))=(l.map (zW d)).sum:=by show 0+0+((l++[]).map (zW d)).sum=_;rw [Xn];omega
        omega
    split at a
    ·split at a;·injection a with h;injection h with h1 h2;injection h2 with h2 h3;subst h1;subst h2;subst h3;refine⟨jn rfl,rfl,hc,?_⟩;have:=qQ t.tail;rw [uA] at this;rw [(ju _ _ _).2,uA];show 0+_≤_;omega
     ·split at a;·cases a
      ·rename_i l w c1 y;injection a with h;injection h with h1 h2;injection h2 with h2 h3;subst h1;subst h2;subst h3;obtain⟨l',b,q,B,D,C,H⟩:=pairs_facts ih _ _ _ _ _ _ _ y VC;rw [X8] at b;subst b;have:=qQ t.tail;rw [uA] at this;refine⟨zcd ?_ fun x i=>?_,?_,C,?_⟩
       ·show (xe l&&true&&true&&true)=true;have:xe l=true:=by unfold xe;rw [XR];exact⟨Xk.2 fun p hp=>(q p hp).2,XT B⟩
        rw [this];rfl
       ·have i:x∈l.map (fun p=>p.2):=i;obtain⟨p,hp,rfl⟩:=Xm.1 i;exact (q p hp).1
       ·have:zp (d+1) (⟨6,0,⟨#[]⟩,[],l⟩:VS (V d))=1+(l.map (fun p=>zp d p.2)).sum:=by show 1+((l.map (fun p=>p.2)).map (zp d)).sum=_;rw [uL];rfl
        omega
       ·have:zW (d+1) (⟨6,0,⟨#[]⟩,[],l⟩:VS (V d))=(l.map (fun p=>p.1.size)).sum+(l.map (fun p=>zW d p.2)).sum:=by show 0+(l.map (fun p=>p.1.size)).sum+((l.map (fun p=>p.2)).map (zW d)).sum=_;rw [uL,Xd];rfl
        rw [zaY] at H;omega
    ·split at a;·cases a
     ·rename_i m w hm;injection a with h;injection h with h1 h2;injection h2 with h2 h3;subst h1;subst h2;subst h3;obtain⟨j,u⟩:=JZ hm;refine⟨jn ?_,rfl,hc,by rw [(ju _ _ _).2];show 0+_≤_;omega⟩;show (decide (-9007199254740991≤m∧m≤9007199254740991)&&true&&true&&true)=true;rw [XT j];rfl
   obtain⟨j,u,F,K⟩:=key;exact⟨j,u,F,Ws⟩
theorem bS {b:List UInt8}{v:V 12}(h:yH b = .inr v):zn 12 v=true∧zp 12 v≤4096∧zW 12 v≤b.length∧b.length≤262144:=by
 unfold yH at h;split at h;·cases h
 split at h;·cases h
 ·rename_i e w r c a;split at h;·injection h with h;subst h;obtain⟨d,h2,h3,f⟩:=Z6 12 _ _ _ _ _ a;exact⟨d,Ws,Ws,Ws⟩
  ·cases h
end Go.Proofs.YtjccecajigmfkaaGreatDoor

/- Parts of one proof, merged: XKG. -/
import Derived.Test.YtibnfbglanpoiaaGreatDoorQeD
set_option linter.all false
set_option maxHeartbeats 12800000
set_option maxRecDepth 10000
namespace Go.Proofs.YtibnfbglanpoiaaGreatDoor
open Go.Proofs.Tryz
open Go.RowKit
def vH (k m:Int) (s:ByteArray) (a b:Value):Array Value:=#[.int .i64 k,.int .i64 m,.string s,a,b]
def jd:(n:Nat)→Nat→World→List Value→V n→Prop
 | 0,_,_,_,_=>False
 | n+1, B, w, cs, (v : VS (V n)) => ∃ vl vm lcs mcs, cs = [.int .i64 v.kind, .int .i64 v.num, .string v.s, vl, vm] ∧
     w.ownsRow B 25 5 vl v.l.length lcs.flatten∧zH (Rep n (fun g=>B≤g∧vl.ownBlock≠some g∧vm.ownBlock≠some g) w) lcs v.l ∧
     w.ownsRow B 132 6 vm v.m.length (yk mcs)∧zH (vS (Rep n (fun g=>B≤g∧vl.ownBlock≠some g∧vm.ownBlock≠some g) w)) mcs v.m ∧
     (Lit.int .i64 v.kind).wf=true∧(Lit.int .i64 v.num).wf=true
theorem jd.rep:∀ {n:Nat}{B:Nat}{w:World}{cs:List Value}{v:V n},jd n B w cs v→Rep n (fun g=>B≤g) w cs v
 | 0,_,_,_,_,h=>h.elim
 | n+1,B,w,cs,v,h=>by
  obtain⟨vl,vm,lcs,mcs,h1,h2,h3,h4,h5,h6,h7⟩:=h
  exact⟨vl,vm,lcs,mcs,{
   cells:=h1
   slcl:=Slc.of_row h2
   alll:=h3.mono fun _ _ _ r=>r.mono (fun _ _ q=>q.1)
   slcm:=Slc.of_row h4
   allm:=h5.mono fun _ _ _ r=>⟨r.1,r.2.mono (fun _ _ q=>q.1)⟩
   inl:=fun g hg=>(h2.lt g (z6 hg)).1
   inm:=fun g hg=>(h4.lt g (z6 hg)).1
   wfk:=h6
   wfn:=h7 }⟩
theorem zH.snoc {α β:Type}{R:α→β→Prop}{xs:List α}{ys:List β}{x:α}{y:β}(h:zH R xs ys) (hr:R x y):zH R (xs++[x]) (ys++[y]):=h.app ((zH.nil R).cons hr)
def yM {α:Type}(R:(Nat→Prop)→List Value→α→Prop):(Nat→Prop)→List (List Value)→List α→Prop
 | _,[],[]=>True
 | P,c::cs,x::xs=>∃ Q:Nat→Prop,(∀ g,Q g→P g)∧R Q c x∧yM R (fun g=>P g∧¬ Q g) cs xs
 | _,_,_=>False
def jp:(n:Nat)→(Nat→Prop)→World→List Value→V n→Prop
 | 0,_,_,_,_=>False
 | n+1, S, w, cs, (v : VS (V n)) => ∃ vl vm lcs mcs, cs = [.int .i64 v.kind, .int .i64 v.num, .string v.s, vl, vm] ∧
     w.ownsRow 0 25 5 vl v.l.length lcs.flatten∧w.ownsRow 0 132 6 vm v.m.length (yk mcs)∧lcs.length=v.l.length∧mcs.map (fun p=>p.1)=v.m.map (fun p=>p.1) ∧
     (∀ g,vl.ownBlock=some g→S g)∧(∀ g,vm.ownBlock=some g→S g) ∧
     yM (fun Q c x=>jp n Q w c x) (fun g=>S g∧vl.ownBlock≠some g∧vm.ownBlock≠some g) (lcs++mcs.map (fun p=>p.2)) v.kids ∧
     (Lit.int .i64 v.kind).wf=true∧(Lit.int .i64 v.num).wf=true
section
variable {α : Type} {R R' : (Nat → Prop) → List Value → α → Prop}
theorem yM.mono:∀ {P P':Nat→Prop}{cs:List (List Value)}{xs:List α},yM R P cs xs→(∀ g,P g→P' g)→yM R P' cs xs
 | _,_,[],[],_,_=>trivial
 | P,P',c::cs,x::xs,⟨Q,h1,h2,h3⟩,h=>⟨Q,fun g q=>h g (h1 g q),h2,yM.mono h3 (fun g q=>⟨h g q.1,q.2⟩)⟩
 | _,_,[],_::_,h,_=>h.elim
 | _,_,_::_,[],h,_=>h.elim
theorem yM.imp:∀ {P:Nat→Prop}{cs:List (List Value)}{xs:List α},yM R P cs xs→(∀ Q c x,(∀ g,Q g→P g)→R Q c x→R' Q c x)→yM R' P cs xs
 | _,[],[],_,_=>trivial
 | P,c::cs,x::xs,⟨Q,h1,h2,h3⟩,h=>⟨Q,h1,h Q c x h1 h2,yM.imp h3 (fun Q' c x hq r=>h Q' c x (fun g q=>(hq g q).1) r)⟩
 | _,[],_::_,h,_=>h.elim
 | _,_::_,[],h,_=>h.elim
theorem yM.app:∀ {P Q:Nat→Prop}{cs ds:List (List Value)}{xs ys:List α},yM R P cs xs→yM R Q ds ys→(∀ g,Q g→¬ P g)→yM R (fun g=>P g∨Q g) (cs++ds) (xs++ys)
 | P,Q,[],ds,[],ys,_,hr,_=>hr.mono (fun _ q=>.inr q)
 | P,Q,d::cs,ds,y::xs,ys,⟨Q1,h1,h2,h3⟩,hr,hd=>⟨Q1,fun g q=>.inl (h1 g q),h2,(yM.app h3 hr (fun g q p=>hd g q p.1)).mono (fun g q=>by
   rcases q with q | q
   ·exact⟨.inl q.1,q.2⟩
   ·exact⟨.inr q,fun q1=>hd g q (h1 g q1)⟩)⟩
 | _,_,[],_,_::_,_,h,_,_=>h.elim
 | _,_,_::_,_,[],_,h,_,_=>h.elim
theorem yM.snoc {P Q:Nat→Prop}{cs:List (List Value)}{xs:List α}{c:List Value}{x:α}(h:yM R P cs xs) (hr:R Q c x) (hd:∀ g,Q g→¬ P g):yM R (fun g=>P g∨Q g) (cs++[c]) (xs++[x]):=
 h.app (Q:=Q) ⟨Q,fun _ q=>q,hr,trivial⟩ hd
theorem yM.len:∀ {P:Nat→Prop}{cs:List (List Value)}{xs:List α},yM R P cs xs→cs.length=xs.length
 | _,[],[],_=>rfl
 | P,c::cs,x::xs,⟨Q,h1,h2,h3⟩=>by rw [List.length_cons,List.length_cons,yM.len h3]
 | _,[],_::_,h=>h.elim
 | _,_::_,[],h=>h.elim
theorem yM.one:∀ {P:Nat→Prop}{cs:List (List Value)}{xs:List α},yM R P cs xs→∀ (i:Nat) (c:List Value) (x:α),cs[i]? = some c→xs[i]? = some x→∃ Q:Nat→Prop,(∀ g,Q g→P g)∧R Q c x
 | _,[],[],_,i,_,_,h,_=>by simp at h
 | P,d::cs,y::xs,⟨Q,h1,h2,h3⟩,i,c,x,hc,hx=>by
  cases i with
  | zero=>simp at hc hx;subst hc;subst hx;exact⟨Q,h1,h2⟩
  | succ i=>
   obtain⟨Q',q1,q2⟩:=yM.one h3 i c x (by simpa using hc) (by simpa using hx)
   exact⟨Q',fun g q=>(q1 g q).1,q2⟩
 | _,[],_::_,h,_,_,_,_,_=>h.elim
 | _,_::_,[],h,_,_,_,_,_=>h.elim
end
theorem jp.kept:∀ {n:Nat}{S:Nat→Prop}{X:List Nat}{w w':World}{cs:List Value}{v:V n},jp n S w cs v→zb X w w'→(∀ k,k∈X→¬ S k)→jp n S w' cs v
 | 0,_,_,_,_,_,_,h,_,_=>h.elim
 | n+1,S,X,w,w',cs,v,h,k,hX=>by
  obtain⟨vl,vm,lcs,mcs,h1,h2,h3,h4,h5,h6,h7,h8,h9⟩:=h
  exact⟨vl,vm,lcs,mcs,h1,zo h2 k (fun g hg hx=>hX g hx (h6 g hg)),zo h3 k (fun g hg hx=>hX g hx (h7 g hg)),h4,h5,h6,h7,
   h8.imp (fun Q c x hq r=>jp.kept r k (fun b hb q=>hX b hb (hq b q).1)),h9⟩
theorem jp.kept0 {n:Nat}{S:Nat→Prop}{w w':World}{cs:List Value}{v:V n}(h:jp n S w cs v) (k:zb [] w w'):jp n S w' cs v:=h.kept k Wz
theorem jp.mono:∀ {n:Nat}{S T:Nat→Prop}{w:World}{cs:List Value}{v:V n},jp n S w cs v→(∀ g,S g→T g)→jp n T w cs v
 | 0,_,_,_,_,_,h,_=>h.elim
 | n+1,S,T,w,cs,v,h,hT=>by
  obtain⟨vl,vm,lcs,mcs,h1,h2,h3,h4,h5,h6,h7,h8,h9⟩:=h
  exact⟨vl,vm,lcs,mcs,h1,h2,h3,h4,h5,fun g q=>hT g (h6 g q),fun g q=>hT g (h7 g q),h8.mono (fun g q=>⟨hT g q.1,q.2⟩),h9⟩
theorem pick_l {α:Type}{v:VS α}{lcs:List (List Value)}{mcs:List (ByteArray×List Value)}(h4:lcs.length=v.l.length) {i:Nat}(hi:i<v.l.length):(lcs++mcs.map (fun p=>p.2))[i]? = lcs[i]? ∧ v.kids[i]? = v.l[i]?:=by
 unfold VS.kids
 rw [List.getElem?_append_left Ws,List.getElem?_append_left hi]
 exact⟨rfl,rfl⟩
theorem pick_m {α:Type}{v:VS α}{lcs:List (List Value)}{mcs:List (ByteArray×List Value)}(h4:lcs.length=v.l.length) (i:Nat):(lcs++mcs.map (fun p=>p.2))[v.l.length+i]? = (mcs[i]?).map (fun p=>p.2)∧v.kids[v.l.length+i]? = (v.m[i]?).map (fun p=>p.2):=by
 unfold VS.kids
 rw [List.getElem?_append_right Ws,List.getElem?_append_right Ws,h4,Nat.add_sub_cancel_left,List.getElem?_map,List.getElem?_map]
 exact⟨rfl,rfl⟩
theorem mcs_len {α:Type}{v:VS α}{mcs:List (ByteArray×List Value)}(h5:mcs.map (fun p=>p.1)=v.m.map (fun p=>p.1)):mcs.length=v.m.length:=by
 have:=congrArg List.length h5
 simpa using this
theorem mcs_key {α:Type}{v:VS α}{mcs:List (ByteArray×List Value)}(h5:mcs.map (fun p=>p.1)=v.m.map (fun p=>p.1)) {j:Nat}{p:ByteArray×List Value}{q:ByteArray×α}(hp:mcs[j]? = some p) (hq:v.m[j]? = some q):p.1=q.1:=by
 have:=congrArg (fun l=>l[j]?) h5
 simp only [List.getElem?_map,hp,hq,Option.map_some,Option.some.injEq] at this
 exact this
theorem jp.rep:∀ {n:Nat}{S:Nat→Prop}{w:World}{cs:List Value}{v:V n},jp n S w cs v→Rep n S w cs v
 | 0,_,_,_,_,h=>h.elim
 | n+1,S,w,cs,v,h=>by
  obtain⟨vl,vm,lcs,mcs,h1,h2,h3,h4,h5,h6,h7,h8,h9,h10⟩:=h
  exact⟨vl,vm,lcs,mcs,{
   cells:=h1
   slcl:=Slc.of_row h2
   alll:=⟨h4,fun j c x hc hx=>by
    have hj:j<(VS.l (α:=V n) v).length:=(List.getElem?_eq_some_iff.1 hx).1
    obtain⟨e1,e2⟩:=pick_l (mcs:=mcs) h4 hj
    obtain⟨Q,q1,q2⟩:=h8.one j c x (e1.trans hc) (e2.trans hx)
    exact (jp.rep q2).mono (fun g _ q=>(q1 g q).1)⟩
   slcm:=Slc.of_row h3
   allm:=⟨mcs_len h5,fun j p q hp hq=>⟨mcs_key h5 hp hq,by
    obtain⟨e1,e2⟩:=pick_m (v:=v) (mcs:=mcs) h4 j
    obtain⟨Q,q1,q2⟩:=h8.one _ p.2 q.2 (e1.trans (by rw [hp];rfl)) (e2.trans (by rw [hq];rfl))
    exact (jp.rep q2).mono (fun g _ q=>(q1 g q).1)⟩⟩
   inl:=fun g hg=>h6 g (z6 hg)
   inm:=fun g hg=>h7 g (z6 hg)
   wfk:=h9
   wfn:=h10 }⟩
structure CloneDL {n:Nat}(W:World) (b3:Nat) (v:VS (V n)) (k:Nat) (wr:World) (vl:Value) (lcs:List (List Value)):Prop where
 blk:wr.heap[b3]? = some (.cells (vH v.kind v.num v.s vl (.slice none 0 0)) 25 (0,0))
 row:wr.ownsRow W.heap.size 25 5 vl k lcs.flatten
 all:yM (fun Q c x=>jp n Q wr c x) (fun g=>W.heap.size≤g∧g<wr.heap.size∧vl.ownBlock≠some g) lcs (v.l.take k)
 kept:zb [b3] W wr
structure CloneDM {n:Nat}(W:World) (b3:Nat) (v:VS (V n)) (vl:Value) (k:Nat) (wr:World) (vm:Value) (mcs:List (ByteArray×List Value)):Prop where
 blk:wr.heap[b3]? = some (.cells (vH v.kind v.num v.s vl vm) 25 (0,0))
 row:wr.ownsRow W.heap.size 132 6 vm k (yk mcs)
 all:yM (fun Q c x=>jp n Q wr c x) (fun g=>W.heap.size≤g∧g<wr.heap.size∧vm.ownBlock≠some g) (mcs.map (fun p=>p.2)) ((v.m.take k).map (fun p=>p.2))
 keys:mcs.map (fun p=>p.1)=(v.m.take k).map (fun p=>p.1)
 kept:zb [b3] W wr
def Zi (n : Nat) : Prop := ∀ (v : V n) {S : Nat → Prop} {w : World} {cs : List Value}, Rep n S w cs v → yA n v →
    Calls Tryz.prog 45 #[.agg cs.toArray] w fun e w'=>(∃ cs':List Value,e = .returned (.agg cs'.toArray)∧jp n (fun g=>w.heap.size≤g∧g<w'.heap.size) w' cs' v)∧zb [] w w'
theorem cloneD_step {n:Nat}(known:Zi n):Zi (n+1):=fun (v:VS (V n)) {S}{w}{cs} h hs=>by
  have Jb:=qI h
  have Gz:=qI hs
  obtain⟨vl,vm,lcs,mcs,h⟩:=h
  obtain⟨a,c,b,e,rfl,rfl,rfl⟩:=h.forms
  have H:=qI h
  have IH:=qI known
  have hlv:v.l.length≤20000:=by have:=hs.few;omega
  have hmv:v.m.length≤20000:=by have:=hs.few;omega
  obtain⟨W0,Gq⟩:∃ W0,Hid (W0=((w.alloc (.cells #[.int .i64 v.kind,.int .i64 v.num,.string v.s,.slice a v.l.length c,.slice b v.m.length e] 25)).alloc (.cells #[.int .i64 0,.int .i64 0,.string ⟨#[]⟩,.slice none 0 0,.slice none 0 0] 25)).alloc (.cells #[.int .i64 v.kind,.int .i64 v.num,.string v.s,.slice none 0 0,.slice none 0 0] 25)):=⟨_,qI rfl⟩
  have Gr:Hid (W0.heap.size=w.heap.size+3):=qI (by rw [Gq.o];simp)
  have Jc:Hid (zb [] w W0):=qI (kA3 Gq.o)
  have Jd:Hid (W0.heap[w.heap.size]? = some (.cells (vH v.kind v.num v.s (.slice a v.l.length c) (.slice b v.m.length e)) 25 (0,0))):=qI (by
   rw [Gq.o];exact (((zb.refl [] _).alloc _).alloc _).heap (zd rfl) Wz)
  have Ja:Hid (W0.heap[w.heap.size+1]? = some (.cells #[.int .i64 0,.int .i64 0,.string ⟨#[]⟩,.slice none 0 0,.slice none 0 0] 25 (0,0))):=qI (by
   rw [Gq.o];exact ((zb.refl [] _).alloc _).heap (zd Wz) Wz)
  have Je:Hid (W0.heap[w.heap.size+1+1]? = some (.cells (vH v.kind v.num v.s (.slice none 0 0) (.slice none 0 0)) 25 (0,0))):=qI (by
   rw [Gq.o];exact zd Wz)
  obtain⟨c0,c1,c2,c3,c4⟩:=xr w v.kind v.num v.s (.slice a v.l.length c) (.slice b v.m.length e) 25
  clear h hs
  go_enter func45,ntmps45
  go_wp2_with fail
  rw [← Gq.o]
  clear c0 c1 c2 c3 c4
  go_loopw [14] (fun i wr=>∃ (k:Nat) (vl:Value) (lcs':List (List Value)),i = .int .i64 k∧k≤v.l.length∧CloneDL W0 (w.heap.size+1+1) v k wr vl lcs') (fun i _=>v.l.length-(intOf i).toNat)
  case atStart=>
   exact⟨0,.slice none 0 0,[],rfl,Nat.zero_le _,{
    blk:=Je.o
    row:=World.ownsRow_nil _ _ _ _
    all:=trivial
    kept:=Wd }⟩
  case round=>
   obtain⟨k,vk,lk,rfl,hk,hc⟩:=hrel
   have HC:=qI hc
   have Gs:Hid (zb [] w wr):=qI (Jc.o.trans hc.kept (by intro i hi;simp at hi;subst hi;exact .inr Ws))
   clear hc
   by_cases hlt:k<v.l.length
   ·have hltI:(k:Int)<v.l.length:=by omega
    obtain⟨g,o,cap,kd,nm,st,a1,b1,he,q0,q1,q2,q3,q4,hr⟩:=H.o.at_l Gs.o k hlt
    simp only [Value.slice.injEq] at he
    obtain⟨rfl,-,rfl⟩:=he
    obtain⟨ak,ck,rfl,-,-⟩:=(Slc.of_row HC.o.row).form
    obtain⟨p1,i1,d1,p2,i2,d2,rfl,rfl⟩:=hr.sl
    have HR:=qI hr
    have Gv:=qI (Gz.o.kid (kZ (List.getElem_mem hlt)))
    have hb3:=HC.o.blk
    have f3:=za (o:=3) hb3 rfl
    clear hr hb3
    go_wp2_with fail
    have g3:=((zb.refl [] wr).alloc (.cells #[.int .i64 kd,.int .i64 nm,.string st,.slice p1 i1 d1,.slice p2 i2 d2] 25)).cell f3 Wz
    obtain⟨e0,e1,e2,e3,e4⟩:=xr wr kd nm st (.slice p1 i1 d1) (.slice p2 i2 d2) 25
    have Gt:=qI ((zb.refl [] wr).alloc (.cells #[.int .i64 kd,.int .i64 nm,.string st,.slice p1 i1 d1,.slice p2 i2 d2] 25))
    have HE:=qI (xr wr kd nm st (.slice p1 i1 d1) (.slice p2 i2 d2) 25)
    have hlt3:=HC.o.row.lt
    have hb3l:w.heap.size+1+1<wr.heap.size:=lt_of_block HC.o.blk
    have Gi:=qI hlt3
    clear hlt3 e0 e1 e2 e3 e4 q0 q1 q2 q3 q4
    refine zv (n:=8) (fun w':World=>w'.cell? ⟨w.heap.size+1+1,3,none⟩=some (.slice ak k ck)∧qq w' wr.heap.size kd nm st (.slice p1 i1 d1) (.slice p2 i2 d2)) 7 Wr Wr ?_
    have hSS:(fun w':World=>w'.cell? ⟨w.heap.size+1+1,3,none⟩=some (.slice ak k ck)∧qq w' wr.heap.size kd nm st (.slice p1 i1 d1) (.slice p2 i2 d2)) ((wr.alloc (.cells #[.int .i64 kd,.int .i64 nm,.string st,.slice p1 i1 d1,.slice p2 i2 d2] 25)).drew):=⟨g3,HE.o.kept0 Wd.drew⟩
    have Gj:Hid (zb [] wr ((wr.alloc (.cells #[.int .i64 kd,.int .i64 nm,.string st,.slice p1 i1 d1,.slice p2 i2 d2] 25)).drew)):=qI Gt.o.drew
    have Gc:Hid (((wr.alloc (.cells #[.int .i64 kd,.int .i64 nm,.string st,.slice p1 i1 d1,.slice p2 i2 d2] 25)).drew).heap.size=wr.heap.size+1):=qI Wz
    change zX _ _ _ _ _ _ _ _ _ ((wr.alloc (.cells #[.int .i64 kd,.int .i64 nm,.string st,.slice p1 i1 d1,.slice p2 i2 d2] 25)).drew)
    clear HE Gt g3
    revert hSS Gj Gc
    generalize (wr.alloc (.cells #[.int .i64 kd,.int .i64 nm,.string st,.slice p1 i1 d1,.slice p2 i2 d2] 25)).drew=W2
    intro hSS Gj Gc
    refine zL ?_
    intro O R hO hR
    have hQp:jC R:=by subst hR;exact fun _ _ _ _ _ h=>h
    refine qT 0 ?_ hO rfl rfl Wr hQp (fun w hSw=>?_) hSS ?_
    rotate_left
    ·exact zi
    try simp only [zA,zN,zB,zC,zD]
    refine qT 1 ?_ hO rfl rfl Wr hQp (fun w hSw=>?_) hSS ?_
    rotate_left
    ·have s3:=hSw.1;exact zi
    try simp only [zA,zN,zB,zC,zD]
    refine qT 2 ?_ hO rfl rfl Wr hQp (fun w hSw=>?_) hSS ?_
    rotate_left
    ·obtain⟨s0,s1,s2,s3,s4⟩:=hSw.2;exact zi
    try simp only [zA,zN,zB,zC,zD]
    refine qO 3 hO rfl Wr (fun K hK=>?_)
    go_simp
    refine Calls.mono (IH.o v.l[k] (HR.o.kept0 Gj.o) Gv.o) ?_
    rintro e w3 ⟨⟨cs',rfl,hown⟩,hk3⟩
    have hrep:=hown.rep
    obtain⟨k3,m3,s3,l3,r3,rfl⟩:=hrep.five
    obtain⟨p3,i3,d3,p4,i4,d4,rfl,rfl⟩:=hrep.sl
    have Gf:=qI hrep
    have Gw:=qI hown
    have Gg:=qI (Gj.o.trans' hk3)
    have hS3:(fun w':World=>w'.cell? ⟨w.heap.size+1+1,3,none⟩=some (.slice ak k ck)∧qq w' wr.heap.size kd nm st (.slice p1 i1 d1) (.slice p2 i2 d2)) w3:=⟨hk3.cell hSS.1 Wz,hSS.2.kept0 hk3⟩
    have hsz3:=hk3.size
    clear hown hrep hk3
    refine hK _ _ (.inr hS3) ?_
    clear hK K
    try simp only [zA,zN,zB,zC,zD]
    clear hSS
    have hSS:=hS3
    clear hS3
    refine qO 4 hO rfl Wr (fun K hK=>?_)
    go_simp
    have Ga:=qI ((zb.refl [] w3).alloc (.cells #[.int .i64 k3,.int .i64 m3,.string s3,.slice p3 i3 d3,.slice p4 i4 d4] 25))
    have Gd:=qI (zT w3 [.int .i64 k3,.int .i64 m3,.string s3,.slice p3 i3 d3,.slice p4 i4 d4] 5 1 25 w3.heap.size rfl rfl Wo)
    have hS4:(fun w':World=>w'.cell? ⟨w.heap.size+1+1,3,none⟩=some (.slice ak k ck)∧qq w' wr.heap.size kd nm st (.slice p1 i1 d1) (.slice p2 i2 d2)) (w3.alloc (.cells #[.int .i64 k3,.int .i64 m3,.string s3,.slice p3 i3 d3,.slice p4 i4 d4] 25)):=⟨Ga.o.cell hSS.1 Wz,hSS.2.kept0 Ga.o⟩
    have Ge:Hid ((w3.alloc (.cells #[.int .i64 k3,.int .i64 m3,.string s3,.slice p3 i3 d3,.slice p4 i4 d4] 25)).heap.size=w3.heap.size+1):=qI Wz
    refine hK _ _ (.inr hS4) ?_
    clear hK K
    try simp only [zA,zN,zB,zC,zD]
    clear hSS
    have hSS:=hS4
    clear hS4
    revert hSS Ga Gd Ge
    generalize w3.alloc (.cells #[.int .i64 k3,.int .i64 m3,.string s3,.slice p3 i3 d3,.slice p4 i4 d4] 25)=w4
    intro Ga Gd Ge hSS
    have Gh:=qI (zo HC.o.row (Gg.o.trans' Ga.o) Wz)
    have Gm:=qI hsz3
    clear hsz3
    refine qO 5 hO rfl Wr (fun K hK=>?_)
    refine kE tyVals Gh.o Gd.o Gf.o.one (by simp only [maxLen];omega) Ws (by have h1:=(Gg.o.trans' Ga.o).size;have h2:=HC.o.kept.size;omega) (.tmp 19) (.tmp 22) rfl rfl rfl ?_
    intro b5 d5 w5 hown5 hk5 hg5
    have hS5:(fun w':World=>w'.cell? ⟨w.heap.size+1+1,3,none⟩=some (.slice ak k ck)∧qq w' wr.heap.size kd nm st (.slice p1 i1 d1) (.slice p2 i2 d2)) w5:=by
     refine⟨hk5.cell hSS.1 (by intro hx;have:=(Gi.o _ (Option.mem_toList.1 hx)).1;have h2:=Gr.o;simp at this;omega),hSS.2.kept hk5 (by intro hx;have:=(Gi.o _ (Option.mem_toList.1 hx)).2;omega)⟩
    refine hK _ _ (.inr hS5) ?_
    clear hK K
    try simp only [zA,zN,zB,zC,zD]
    clear hSS
    have hSS:=hS5
    clear hS5
    have Gb:=qI hown5
    have Gn:=qI hk5
    have Gx:=qI hg5
    clear hown5 hk5 hg5
    refine qO 6 hO rfl Wr (fun K hK=>?_)
    go_simp
    refine hK _ _ (.inr hSS) ?_
    clear hK K
    try simp only [zA,zN,zB,zC,zD]
    have Gp:Hid (w5.heap[w.heap.size+1+1]? = some (.cells (vH v.kind v.num v.s (.slice ak k ck) (.slice none 0 0)) 25 (0,0))):=qI (Gn.o.heap ((Gg.o.trans' Ga.o).heap HC.o.blk Wz) (by intro hx;have:=(Gi.o _ (Option.mem_toList.1 hx)).1;have h2:=Gr.o;omega))
    have hc5:=za (o:=3) Gp.o rfl
    have hf5:=zh (o:=3) Gp.o
    refine qO 7 hO rfl Wr (fun K hK=>?_)
    go_simp
    refine hK _ _ (.inl rfl) ?_
    clear hK K
    try simp only [zA,zN,zB,zC,zD]
    refine zF hO Wr ?_ _
    subst hR
    try clear hQp hO O
    clear hc5 hf5 hSS
    go_wp2_with fail
    case roundEnd=>
     have hz:=Gr.o
     have hz2:=Gc.o
     have hz3:=Gm.o
     have hz4:=Ge.o
     have hlo:=Gi.o
     have KX:zb ((w.heap.size+1+1)::(Value.slice ak k ck).ownBlock.toList) w4 (w5.setCell ⟨w.heap.size+1+1,3,none⟩ (.slice b5 (k+1) d5)):=(Gn.o.mono (Y:=(w.heap.size+1+1)::(Value.slice ak k ck).ownBlock.toList) (fun i hi=>List.mem_cons_of_mem _ hi)).setCell (p:=⟨w.heap.size+1+1,3,none⟩) (.inl (List.mem_cons_self ..)) _
     have hz5:∀ g,(Value.slice b5 (k+1) d5).ownBlock=some g→(Value.slice ak k ck).ownBlock=some g∨g=w4.heap.size:=fun g hg=>by
      rcases Gx.o with h | h
      ·exact .inl (by rw [← h];exact hg)
      ·exact .inr (by rw [hg] at h;exact Option.some.inj h)
     refine⟨⟨k+1,_,lk++[[.int .i64 k3,.int .i64 m3,.string s3,.slice p3 i3 d3,.slice p4 i4 d4]],by go_num,Ws,{
      blk:=zg Gp.o rfl
      row:=?_
      all:=?_
      kept:=?_ }⟩,by simp [intOf];omega⟩
     ·rw [List.flatten_append]
      simp only [List.flatten_cons,List.flatten_nil,List.append_nil]
      exact zo Gb.o ((zb.refl [w.heap.size+1+1] w5).setCell (.inl Wz) _) (by
       intro g hg hx
       simp at hx
       have:=(Gb.o.lt g hg).1
       omega)
     ·rw [List.take_succ_eq_append_getElem hlt]
      have KA:=(((Gg.o.trans' Ga.o).mono (Y:=(w.heap.size+1+1)::(Value.slice ak k ck).ownBlock.toList) Wz).trans' KX)
      have KB:=((Ga.o.mono (Y:=(w.heap.size+1+1)::(Value.slice ak k ck).ownBlock.toList) Wz).trans' KX)
      have hs1:=KX.size
      refine ((HC.o.all.imp (fun Q c x hq r=>r.kept KA (fun b hb hqb=>?_))).snoc (Gw.o.kept KB (fun b hb hqb=>?_)) (fun g q p=>?_)).mono (fun g q=>?_)
      ·obtain⟨h0,h1,h2⟩:=hq b hqb
       rcases List.mem_cons.1 hb with rfl | hb
       ·omega
       ·exact h2 (Option.mem_toList.1 hb)
      ·rcases List.mem_cons.1 hb with rfl | hb
       ·have:=HC.o.kept.size;omega
       ·have:=(hlo b (Option.mem_toList.1 hb)).2;omega
      ·omega
      ·have hz0:=HC.o.kept.size
       rcases q with ⟨h0,h1,h2⟩ | ⟨h0,h1⟩
       ·refine⟨h0,Ws,fun h3=>?_⟩
        rcases hz5 g h3 with h4 | h4
        ·exact h2 h4
        ·omega
       ·refine⟨Ws,Ws,fun h3=>?_⟩
        rcases hz5 g h3 with h4 | h4
        ·have:=(hlo g h4).2;omega
        ·omega
     ·exact ((HC.o.kept.then (Gg.o.trans' Ga.o)).trans Gn.o (fun i hi=>.inr (hlo i (Option.mem_toList.1 hi)).1)).setCell (.inl Wz) _
   ·obtain rfl:k=v.l.length:=by omega
    obtain⟨WL,rfl⟩:∃ x,x=wr:=⟨_,rfl⟩
    have Gl:=qI HC.o
    have Gu:=qI Gs.o
    have Gk:Hid (w.heap.size+3≤WL.heap.size):=qI (by have h1:=HC.o.kept.size;have h2:=Gr.o;omega)
    have Jf:Hid (WL.heap[w.heap.size]? = some (.cells (vH v.kind v.num v.s (.slice a v.l.length c) (.slice b v.m.length e)) 25 (0,0))):=qI (HC.o.kept.heap Jd.o (by simp;omega))
    obtain⟨vL,rfl⟩:∃ x,x=vk:=⟨_,rfl⟩
    obtain⟨lL,rfl⟩:∃ x,x=lk:=⟨_,rfl⟩
    have hb4:=za (o:=4) (v:=.slice b v.m.length e) Jf.o rfl
    go_wp2_with fail
    clear hb4 HC Gs
    go_loopw [29] (fun i wr=>∃ (k:Nat) (vm:Value) (mc:List (ByteArray×List Value)),i = .int .i64 k∧k≤v.m.length∧CloneDM WL (w.heap.size+1+1) v vL k wr vm mc) (fun i _=>v.m.length-(intOf i).toNat)
    case atStart=>
     exact⟨0,.slice none 0 0,[],rfl,Nat.zero_le _,{
      blk:=Gl.o.blk
      row:=World.ownsRow_nil _ _ _ _
      all:=trivial
      keys:=rfl
      kept:=Wd }⟩
    case round=>
     obtain⟨k,vk,lk,rfl,hk,hc⟩:=hrel
     have HC:=qI hc
     have Gs:Hid (zb [] w wr):=qI (Gu.o.trans hc.kept (by intro i hi;simp at hi;subst hi;exact .inr Ws))
     clear hc
     by_cases hlt:k<v.m.length
     ·have hltI:(k:Int)<v.m.length:=by omega
      obtain⟨g,o,cap,kd,nm,st,a1,b1,he,q0,q1,q2,q3,q4,q5,hr⟩:=H.o.at_m Gs.o k hlt
      simp only [Value.slice.injEq] at he
      obtain⟨rfl,-,rfl⟩:=he
      obtain⟨ak,ck,rfl,-,-⟩:=(Slc.of_row HC.o.row).form
      obtain⟨p1,i1,d1,p2,i2,d2,rfl,rfl⟩:=hr.sl
      have HR:=qI hr
      have Gv:=qI (Gz.o.kid (k9 (List.getElem_mem hlt)))
      have hb3:=HC.o.blk
      have f3:=za (o:=4) hb3 rfl
      clear hr hb3
      generalize hkey:v.m[k].1=key at q0
      have Gy:=qI hkey
      clear hkey
      go_wp2_with fail
      have g3:=((zb.refl [] wr).alloc (.cells #[.string key,.int .i64 kd,.int .i64 nm,.string st,.slice p1 i1 d1,.slice p2 i2 d2] 132)).cell f3 Wz
      have Gt:=qI ((zb.refl [] wr).alloc (.cells #[.string key,.int .i64 kd,.int .i64 nm,.string st,.slice p1 i1 d1,.slice p2 i2 d2] 132))
      have HE:=qI (pbox_at (w:=wr) rfl key kd nm st (.slice p1 i1 d1) (.slice p2 i2 d2) 132)
      have hlt3:=HC.o.row.lt
      have hb3l:w.heap.size+1+1<wr.heap.size:=lt_of_block HC.o.blk
      have Gi:=qI hlt3
      clear hlt3 q0 q1 q2 q3 q4 q5
      refine zv (n:=12) (fun w':World=>w'.cell? ⟨w.heap.size+1+1,4,none⟩=some (.slice ak k ck)∧jw w' wr.heap.size key kd nm st (.slice p1 i1 d1) (.slice p2 i2 d2)) 11 Wr Wr ?_
      have hSS:(fun w':World=>w'.cell? ⟨w.heap.size+1+1,4,none⟩=some (.slice ak k ck)∧jw w' wr.heap.size key kd nm st (.slice p1 i1 d1) (.slice p2 i2 d2)) ((wr.alloc (.cells #[.string key,.int .i64 kd,.int .i64 nm,.string st,.slice p1 i1 d1,.slice p2 i2 d2] 132)).drew):=⟨g3,HE.o.kept0 Wd.drew⟩
      have Gj:Hid (zb [] wr ((wr.alloc (.cells #[.string key,.int .i64 kd,.int .i64 nm,.string st,.slice p1 i1 d1,.slice p2 i2 d2] 132)).drew)):=qI Gt.o.drew
      have Gc:Hid (((wr.alloc (.cells #[.string key,.int .i64 kd,.int .i64 nm,.string st,.slice p1 i1 d1,.slice p2 i2 d2] 132)).drew).heap.size=wr.heap.size+1):=qI Wz
      change zX _ _ _ _ _ _ _ _ _ ((wr.alloc (.cells #[.string key,.int .i64 kd,.int .i64 nm,.string st,.slice p1 i1 d1,.slice p2 i2 d2] 132)).drew)
      clear HE Gt g3
      revert hSS Gj Gc
      generalize (wr.alloc (.cells #[.string key,.int .i64 kd,.int .i64 nm,.string st,.slice p1 i1 d1,.slice p2 i2 d2] 132)).drew=W2
      intro hSS Gj Gc
      refine zL ?_
      intro O R hO hR
      have hQp:jC R:=by subst hR;exact fun _ _ _ _ _ h=>h
      refine qT 0 ?_ hO rfl rfl Wr hQp (fun w hSw=>?_) hSS ?_
      rotate_left
      ·exact zi
      try simp only [zA,zN,zB,zC,zD]
      refine qT 1 ?_ hO rfl rfl Wr hQp (fun w hSw=>?_) hSS ?_
      rotate_left
      ·have s3:=hSw.1;exact zi
      try simp only [zA,zN,zB,zC,zD]
      refine qT 2 ?_ hO rfl rfl Wr hQp (fun w hSw=>?_) hSS ?_
      rotate_left
      ·obtain⟨s0,s1,s2,s3,s4,s5⟩:=hSw.2;exact zi
      try simp only [zA,zN,zB,zC,zD]
      refine qT 3 ?_ hO rfl rfl Wr hQp (fun w hSw=>?_) hSS ?_
      rotate_left
      ·obtain⟨s0,s1,s2,s3,s4,s5⟩:=hSw.2;exact zi
      try simp only [zA,zN,zB,zC,zD]
      refine qT 4 ?_ hO rfl rfl Wr hQp (fun w hSw=>?_) hSS ?_
      rotate_left
      ·obtain⟨s0,s1,s2,s3,s4,s5⟩:=hSw.2;exact zi
      try simp only [zA,zN,zB,zC,zD]
      refine qT 5 ?_ hO rfl rfl Wr hQp (fun w hSw=>?_) hSS ?_
      rotate_left
      ·obtain⟨s0,s1,s2,s3,s4,s5⟩:=hSw.2;exact zi
      try simp only [zA,zN,zB,zC,zD]
      refine qO 6 hO rfl Wr (fun K hK=>?_)
      go_simp
      refine Calls.mono (IH.o v.m[k].2 (HR.o.kept0 Gj.o) Gv.o) ?_
      rintro e w3 ⟨⟨cs',rfl,hown⟩,hk3⟩
      have hrep:=hown.rep
      obtain⟨k3,m3,s3,l3,r3,rfl⟩:=hrep.five
      obtain⟨p3,i3,d3,p4,i4,d4,rfl,rfl⟩:=hrep.sl
      have Gf:=qI hrep
      have Gw:=qI hown
      have Gg:=qI (Gj.o.trans' hk3)
      have hS3:(fun w':World=>w'.cell? ⟨w.heap.size+1+1,4,none⟩=some (.slice ak k ck)∧jw w' wr.heap.size key kd nm st (.slice p1 i1 d1) (.slice p2 i2 d2)) w3:=⟨hk3.cell hSS.1 Wz,hSS.2.kept0 hk3⟩
      have hsz3:=hk3.size
      clear hown hrep hk3
      refine hK _ _ (.inr hS3) ?_
      clear hK K
      try simp only [zA,zN,zB,zC,zD]
      clear hSS
      have hSS:=hS3
      clear hS3
      refine qO 7 hO rfl Wr (fun K hK=>?_)
      go_simp
      refine hK _ _ (.inr hSS) ?_
      clear hK K
      try simp only [zA,zN,zB,zC,zD]
      refine qO 8 hO rfl Wr (fun K hK=>?_)
      go_simp
      have Ga:=qI ((zb.refl [] w3).alloc (.cells #[.string key,.int .i64 k3,.int .i64 m3,.string s3,.slice p3 i3 d3,.slice p4 i4 d4] 132))
      have Gd:=qI (zT w3 [.string key,.int .i64 k3,.int .i64 m3,.string s3,.slice p3 i3 d3,.slice p4 i4 d4] 6 1 132 w3.heap.size rfl rfl Wo)
      have hS4:(fun w':World=>w'.cell? ⟨w.heap.size+1+1,4,none⟩=some (.slice ak k ck)∧jw w' wr.heap.size key kd nm st (.slice p1 i1 d1) (.slice p2 i2 d2)) (w3.alloc (.cells #[.string key,.int .i64 k3,.int .i64 m3,.string s3,.slice p3 i3 d3,.slice p4 i4 d4] 132)):=⟨Ga.o.cell hSS.1 Wz,hSS.2.kept0 Ga.o⟩
      have Ge:Hid ((w3.alloc (.cells #[.string key,.int .i64 k3,.int .i64 m3,.string s3,.slice p3 i3 d3,.slice p4 i4 d4] 132)).heap.size=w3.heap.size+1):=qI Wz
      refine hK _ _ (.inr hS4) ?_
      clear hK K
      try simp only [zA,zN,zB,zC,zD]
      clear hSS
      have hSS:=hS4
      clear hS4
      revert hSS Ga Gd Ge
      generalize w3.alloc (.cells #[.string key,.int .i64 k3,.int .i64 m3,.string s3,.slice p3 i3 d3,.slice p4 i4 d4] 132)=w4
      intro Ga Gd Ge hSS
      have Gh:=qI (zo HC.o.row (Gg.o.trans' Ga.o) Wz)
      have Gm:=qI hsz3
      clear hsz3
      refine qO 9 hO rfl Wr (fun K hK=>?_)
      refine kE jF Gh.o Gd.o (by intro u hu;rcases List.mem_cons.1 hu with rfl | hu <;> first | rfl | exact Gf.o.one u hu) (by simp only [maxLen];omega) Ws (by have h1:=(Gg.o.trans' Ga.o).size;have h2:=HC.o.kept.size;omega) (.tmp 34) (.tmp 41) rfl rfl rfl ?_
      intro b5 d5 w5 hown5 hk5 hg5
      have hS5:(fun w':World=>w'.cell? ⟨w.heap.size+1+1,4,none⟩=some (.slice ak k ck)∧jw w' wr.heap.size key kd nm st (.slice p1 i1 d1) (.slice p2 i2 d2)) w5:=by
       refine⟨hk5.cell hSS.1 (by intro hx;have:=(Gi.o _ (Option.mem_toList.1 hx)).1;have h2:=Gk.o;simp at this;omega),hSS.2.kept hk5 (by intro hx;have:=(Gi.o _ (Option.mem_toList.1 hx)).2;omega)⟩
      refine hK _ _ (.inr hS5) ?_
      clear hK K
      try simp only [zA,zN,zB,zC,zD]
      clear hSS
      have hSS:=hS5
      clear hS5
      have Gb:=qI hown5
      have Gn:=qI hk5
      have Gx:=qI hg5
      clear hown5 hk5 hg5
      refine qO 10 hO rfl Wr (fun K hK=>?_)
      go_simp
      refine hK _ _ (.inr hSS) ?_
      clear hK K
      try simp only [zA,zN,zB,zC,zD]
      have Gp:Hid (w5.heap[w.heap.size+1+1]? = some (.cells (vH v.kind v.num v.s vL (.slice ak k ck)) 25 (0,0))):=qI (Gn.o.heap ((Gg.o.trans' Ga.o).heap HC.o.blk Wz) (by intro hx;have:=(Gi.o _ (Option.mem_toList.1 hx)).1;have h2:=Gk.o;omega))
      have hc5:=za (o:=4) Gp.o rfl
      have hf5:=zh (o:=4) Gp.o
      refine qO 11 hO rfl Wr (fun K hK=>?_)
      go_simp
      refine hK _ _ (.inl rfl) ?_
      clear hK K
      try simp only [zA,zN,zB,zC,zD]
      refine zF hO Wr ?_ _
      subst hR
      try clear hQp hO O
      clear hc5 hf5 hSS
      go_wp2_with fail
      case roundEnd=>
       have hz:=Gk.o
       have hz2:=Gc.o
       have hz3:=Gm.o
       have hz4:=Ge.o
       have hlo:=Gi.o
       have KX:zb ((w.heap.size+1+1)::(Value.slice ak k ck).ownBlock.toList) w4 (w5.setCell ⟨w.heap.size+1+1,4,none⟩ (.slice b5 (k+1) d5)):=(Gn.o.mono (Y:=(w.heap.size+1+1)::(Value.slice ak k ck).ownBlock.toList) (fun i hi=>List.mem_cons_of_mem _ hi)).setCell (p:=⟨w.heap.size+1+1,4,none⟩) (.inl (List.mem_cons_self ..)) _
       have hz5:∀ g,(Value.slice b5 (k+1) d5).ownBlock=some g→(Value.slice ak k ck).ownBlock=some g∨g=w4.heap.size:=fun g hg=>by
        rcases Gx.o with h | h
        ·exact .inl (by rw [← h];exact hg)
        ·exact .inr (by rw [hg] at h;exact Option.some.inj h)
       refine⟨⟨k+1,_,lk++[(key,[.int .i64 k3,.int .i64 m3,.string s3,.slice p3 i3 d3,.slice p4 i4 d4])],by go_num,Ws,{
        blk:=zg Gp.o rfl
        row:=?_
        all:=?_
        keys:=?_
        kept:=?_ }⟩,by simp [intOf];omega⟩
       ·rw [show yk (lk++[(key,[.int .i64 k3,.int .i64 m3,.string s3,.slice p3 i3 d3,.slice p4 i4 d4])])=yk lk++[.string key,.int .i64 k3,.int .i64 m3,.string s3,.slice p3 i3 d3,.slice p4 i4 d4] by simp [yk,xg]]
        exact zo Gb.o ((zb.refl [w.heap.size+1+1] w5).setCell (.inl Wz) _) (by
         intro g hg hx
         simp at hx
         have:=(Gb.o.lt g hg).1
         omega)
       ·rw [List.take_succ_eq_append_getElem hlt,List.map_append,List.map_append]
        have KA:=(((Gg.o.trans' Ga.o).mono (Y:=(w.heap.size+1+1)::(Value.slice ak k ck).ownBlock.toList) Wz).trans' KX)
        have KB:=((Ga.o.mono (Y:=(w.heap.size+1+1)::(Value.slice ak k ck).ownBlock.toList) Wz).trans' KX)
        have hs1:=KX.size
        refine ((HC.o.all.imp (fun Q c x hq r=>r.kept KA (fun b hb hqb=>?_))).snoc (Gw.o.kept KB (fun b hb hqb=>?_)) (fun g q p=>?_)).mono (fun g q=>?_)
        ·obtain⟨h0,h1,h2⟩:=hq b hqb
         rcases List.mem_cons.1 hb with rfl | hb
         ·omega
         ·exact h2 (Option.mem_toList.1 hb)
        ·rcases List.mem_cons.1 hb with rfl | hb
         ·have:=HC.o.kept.size;omega
         ·have:=(hlo b (Option.mem_toList.1 hb)).2;omega
        ·omega
        ·have hz0:=HC.o.kept.size
         rcases q with ⟨h0,h1,h2⟩ | ⟨h0,h1⟩
         ·refine⟨h0,Ws,fun h3=>?_⟩
          rcases hz5 g h3 with h4 | h4
          ·exact h2 h4
          ·omega
         ·refine⟨Ws,Ws,fun h3=>?_⟩
          rcases hz5 g h3 with h4 | h4
          ·have:=(hlo g h4).2;omega
          ·omega
       ·rw [List.take_succ_eq_append_getElem hlt,List.map_append,List.map_append,HC.o.keys]
        simp [Gy.o]
       ·exact ((HC.o.kept.then (Gg.o.trans' Ga.o)).trans Gn.o (fun i hi=>.inr (hlo i (Option.mem_toList.1 hi)).1)).setCell (.inl Wz) _
     ·obtain rfl:k=v.m.length:=by omega
      have hbc:=HC.o.blk
      have d0:=za (o:=0) (v:=.int .i64 v.kind) hbc rfl
      have d1:=za (o:=1) (v:=.int .i64 v.num) hbc rfl
      have d2:=za (o:=2) (v:=.string v.s) hbc rfl
      have d3:=za (o:=3) (v:=vL) hbc rfl
      have d4:=za (o:=4) (v:=vk) hbc rfl
      have hbr:=HC.o.kept.heap (Gl.o.kept.heap Ja.o Wz) Wz
      obtain⟨aL,cL,rfl,-,-⟩:=(Slc.of_row Gl.o.row).form
      obtain⟨aM,cM,rfl,-,-⟩:=(Slc.of_row HC.o.row).form
      have r0:=za (o:=0) (v:=.int .i64 0) hbr rfl
      have r1:=za (o:=1) (v:=.int .i64 0) hbr rfl
      have r2:=za (o:=2) (v:=.string ⟨#[]⟩) hbr rfl
      have r3:=za (o:=3) (v:=.slice none 0 0) hbr rfl
      have r4:=za (o:=4) (v:=.slice none 0 0) hbr rfl
      have s0:=zh (o:=0) hbr
      have s1:=zh (o:=1) hbr
      have s2:=zh (o:=2) hbr
      have s3:=zh (o:=3) hbr
      have s4:=zh (o:=4) hbr
      clear hbc hbr
      go_wp2_with fail
      have KF:zb [w.heap.size+1] wr (((((wr.setCell ⟨w.heap.size+1,0,none⟩ (.int .i64 v.kind)).setCell ⟨w.heap.size+1,1,none⟩ (.int .i64 v.num)).setCell ⟨w.heap.size+1,2,none⟩ (.string v.s)).setCell ⟨w.heap.size+1,3,none⟩ (.slice aL v.l.length cL)).setCell ⟨w.heap.size+1,4,none⟩ (.slice aM v.m.length cM)):=
       ((((Wd.setCell (p:=⟨w.heap.size+1,0,none⟩) (.inl Wz) _).setCell (p:=⟨w.heap.size+1,1,none⟩) (.inl Wz) _).setCell (p:=⟨w.heap.size+1,2,none⟩) (.inl Wz) _).setCell (p:=⟨w.heap.size+1,3,none⟩) (.inl Wz) _).setCell (p:=⟨w.heap.size+1,4,none⟩) (.inl Wz) _
      have hbf:=zg (v:=.slice aM v.m.length cM) (i:=4) (zg (v:=.slice aL v.l.length cL) (i:=3) (zg (v:=.string v.s) (i:=2) (zg (v:=.int .i64 v.num) (i:=1) (zg (v:=.int .i64 v.kind) (i:=0) (HC.o.kept.heap (Gl.o.kept.heap Ja.o Wz) Wz) rfl) rfl) rfl) rfl) rfl
      have x0:=za (o:=0) (v:=.int .i64 v.kind) hbf rfl
      have x1:=za (o:=1) (v:=.int .i64 v.num) hbf rfl
      have x2:=za (o:=2) (v:=.string v.s) hbf rfl
      have x3:=za (o:=3) (v:=.slice aL v.l.length cL) hbf rfl
      have x4:=za (o:=4) (v:=.slice aM v.m.length cM) hbf rfl
      clear hbf d0 d1 d2 d3 d4 r0 r1 r2 r3 r4 s0 s1 s2 s3 s4
      revert KF x0 x1 x2 x3 x4
      generalize ((((wr.setCell ⟨w.heap.size+1,0,none⟩ (.int .i64 v.kind)).setCell ⟨w.heap.size+1,1,none⟩ (.int .i64 v.num)).setCell ⟨w.heap.size+1,2,none⟩ (.string v.s)).setCell ⟨w.heap.size+1,3,none⟩ (.slice aL v.l.length cL)).setCell ⟨w.heap.size+1,4,none⟩ (.slice aM v.m.length cM)=WF
      intro KF x0 x1 x2 x3 x4
      have hzl:=Gk.o
      have hz0:=Gr.o
      have hLlt:=Gl.o.row.lt
      have hMlt:=HC.o.row.lt
      have hkl:=HC.o.kept.size
      have KLM:zb [w.heap.size+1,w.heap.size+1+1] WL WF:=(HC.o.kept.mono Wz).trans' (KF.mono Wz)
      refine bodyPost_ret (v:=.agg #[.int .i64 v.kind,.int .i64 v.num,.string v.s,.slice aL v.l.length cL,.slice aM v.m.length cM]) (by simp [results,results45,go_sem,x0,x1,x2,x3,x4]) rfl ⟨⟨[.int .i64 v.kind,.int .i64 v.num,.string v.s,.slice aL v.l.length cL,.slice aM v.m.length cM],rfl,_,_,lL,lk,rfl,?_,?_,?_,?_,?_,?_,?_,H.o.wfk,H.o.wfn⟩,?_⟩
      ·exact qD (zo Gl.o.row KLM (fun g hg hx=>by have:=hLlt g hg;simp at hx;omega)) (fun _ _=>Nat.zero_le _)
      ·exact qD (zo HC.o.row KF (fun g hg hx=>by have:=hMlt g hg;simp at hx;omega)) (fun _ _=>Nat.zero_le _)
      ·have:=Gl.o.all.len
       rwa [List.take_length] at this
      ·have:=HC.o.keys
       rwa [List.take_length] at this
      ·intro g hg
       have:=hLlt g hg
       have:=KLM.size
       exact⟨Ws,Ws⟩
      ·intro g hg
       have:=hMlt g hg
       have:=KF.size
       exact⟨Ws,Ws⟩
      ·have h1:=Gl.o.all
       have h2:=HC.o.all
       rw [List.take_length] at h1 h2
       have hs1:=KLM.size
       have hs2:=KF.size
       refine (yM.app (h1.imp (fun Q c x hq r=>r.kept KLM (fun b hb hqb=>?_))) (h2.imp (fun Q c x hq r=>r.kept KF (fun b hb hqb=>?_))) (fun g q p=>?_)).mono (fun g q=>?_)
       ·have:=hq b hqb
        simp at hb
        omega
       ·have:=hq b hqb
        simp at hb
        omega
       ·omega
       ·rcases q with ⟨h0,h1,h2⟩ | ⟨h0,h1,h2⟩
        ·exact⟨⟨Ws,Ws⟩,h2,fun h4=>by have:=(hMlt g h4).1;omega⟩
        ·exact⟨⟨Ws,Ws⟩,fun h4=>by have:=(hLlt g h4).2;omega,h2⟩
      ·exact Gu.o.trans KLM (fun i hi=>by simp at hi;omega)
theorem KE:∀ (n:Nat),Zi n
 | 0=>fun v {_}{_}{_} h _=>h.elim
 | n+1=>cloneD_step (KE n)
theorem J4:∀ (n:Nat) (v:V n) {S:Nat→Prop}{w:World}{cs:List Value},Rep n S w cs v→yA n v →
  Calls Tryz.prog 45 #[.agg cs.toArray] w fun e w'=>(∃ cs':List Value,e = .returned (.agg cs'.toArray)∧jp n (fun g=>w.heap.size≤g∧g<w'.heap.size) w' cs' v)∧zb [] w w':=fun n=>KE n
theorem jp.own:∀ {n:Nat}{S:Nat→Prop}{B:Nat}{w:World}{cs:List Value}{v:V n},jp n S w cs v→(∀ g,S g→B≤g)→jd n B w cs v
 | 0,_,_,_,_,_,h,_=>h.elim
 | n+1,S,B,w,cs,v,h,hS=>by
  obtain⟨vl,vm,lcs,mcs,h1,h2,h3,h4,h5,h6,h7,h8,h9⟩:=h
  refine⟨vl,vm,lcs,mcs,h1,qD h2 (fun g hg=>hS g (h6 g hg)),⟨h4,fun j c x hc hx=>?_⟩,qD h3 (fun g hg=>hS g (h7 g hg)),⟨mcs_len h5,fun j p q hp hq=>⟨mcs_key h5 hp hq,?_⟩⟩,h9⟩
  ·have hj:j<(VS.l (α:=V n) v).length:=(List.getElem?_eq_some_iff.1 hx).1
   obtain⟨e1,e2⟩:=pick_l (mcs:=mcs) h4 hj
   obtain⟨Q,q1,q2⟩:=h8.one j c x (e1.trans hc) (e2.trans hx)
   exact (jp.rep q2).mono (fun g _ q=>⟨hS g (q1 g q).1,(q1 g q).2⟩)
  ·obtain⟨e1,e2⟩:=pick_m (v:=v) (mcs:=mcs) h4 j
   obtain⟨Q,q1,q2⟩:=h8.one _ p.2 q.2 (e1.trans (by rw [hp];rfl)) (e2.trans (by rw [hq];rfl))
   exact (jp.rep q2).mono (fun g _ q=>⟨hS g (q1 g q).1,(q1 g q).2⟩)
theorem clone_any:∀ (n:Nat) (v:V n) {S:Nat→Prop}{w:World}{cs:List Value},Rep n S w cs v→yA n v →
  Calls Tryz.prog 45 #[.agg cs.toArray] w fun e w'=>(∃ cs':List Value,e = .returned (.agg cs'.toArray)∧jd n w.heap.size w' cs' v)∧zb [] w w':=fun n v {_}{_}{_} h hs=>(J4 n v h hs).mono fun _ _ ⟨⟨cs',e,ho⟩,hk⟩=>⟨⟨cs',e,ho.own (fun _ hg=>hg.1)⟩,hk⟩
end Go.Proofs.YtibnfbglanpoiaaGreatDoor

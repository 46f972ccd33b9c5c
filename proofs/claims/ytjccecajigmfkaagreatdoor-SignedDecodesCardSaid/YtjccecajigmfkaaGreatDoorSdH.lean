/- Parts of one proof, merged: XKG. -/
import Derived.Test.YtjccecajigmfkaaGreatDoorSdD
set_option linter.all false
set_option maxHeartbeats 12800000
set_option maxRecDepth 10000
namespace Go.Proofs.YtjccecajigmfkaaGreatDoor
open Go.Proofs.Tryz
open Go.RowKit
variable {lcs:List (List Value)}{mcs:List (ByteArray×List Value)}{n:Nat}
def xD (k m:Int)(s:ByteArray)(a b:Value):Array Value:=#[.int .i64 k,.int .i64 m,.string s,a,b]
def yC:(n:Nat)→Nat→World→List Value→V n→Prop
 | 0,_,_,_,_=>False
 | n+1, B, w, cs, (v : VS (V n)) => ∃ vl vm lcs mcs, cs = [.int .i64 v.kind, .int .i64 v.num, .string v.s, vl, vm] ∧
     w.ownsRow B 25 5 vl v.l.length lcs.flatten∧zL (Rep n (fun g=>B≤g∧vl.ownBlock≠some g∧vm.ownBlock≠some g) w) lcs v.l ∧
     w.ownsRow B 41 6 vm v.m.length (yM mcs)∧zL (YQ (Rep n (fun g=>B≤g∧vl.ownBlock≠some g∧vm.ownBlock≠some g) w)) mcs v.m ∧
     (Lit.int .i64 v.kind).wf=true∧(Lit.int .i64 v.num).wf=true
theorem yC.rep:∀ {n:Nat}{B:Nat}{w:World}{cs:List Value}{v:V n},yC n B w cs v→Rep n (fun g=>B≤g) w cs v
 | 0,_,_,_,_,h=>h.elim
 | n+1,B,w,cs,v,h=>by
  obtain⟨vl,vm,lcs,mcs,h1,h2,h3,h4,h5,h6,h7⟩:=h
  exact⟨vl,vm,lcs,mcs,{
   cells:=h1
   slcl:=Slc.of_row h2
   alll:=h3.mono fun _ _ _ r=>r.mono (fun _ _ q=>q.1)
   slcm:=Slc.of_row h4
   allm:=h5.mono fun _ _ _ r=>⟨r.1,r.2.mono (fun _ _ q=>q.1)⟩
   inl:=fun g a=>(h2.lt g (yL a)).1
   inm:=fun g a=>(h4.lt g (yL a)).1
   wfk:=h6
   wfn:=h7 }⟩
theorem zL.snoc {α β:Type}{R:α→β→Prop}{xs:List α}{ys:List β}{x:α}{y:β}(h:zL R xs ys)(a:R x y):zL R (xs++[x]) (ys++[y]):=h.app ((zL.nil R).cons a)
def yB {α:Type}(R:(Nat→Prop)→List Value→α→Prop):(Nat→Prop)→List (List Value)→List α→Prop
 | _,[],[]=>True
 | P,c::cs,x::xs=>∃ Q:Nat→Prop,(∀ g,Q g→P g)∧R Q c x∧yB R (fun g=>P g∧¬ Q g) cs xs
 | _,_,_=>False
def jH:(n:Nat)→(Nat→Prop)→World→List Value→V n→Prop
 | 0,_,_,_,_=>False
 | n+1, S, w, cs, (v : VS (V n)) => ∃ vl vm lcs mcs, cs = [.int .i64 v.kind, .int .i64 v.num, .string v.s, vl, vm] ∧
     w.ownsRow 0 25 5 vl v.l.length lcs.flatten∧w.ownsRow 0 41 6 vm v.m.length (yM mcs)∧lcs.length=v.l.length∧mcs.map (fun p=>p.1)=v.m.map (fun p=>p.1) ∧
     (∀ g,vl.ownBlock=some g→S g)∧(∀ g,vm.ownBlock=some g→S g) ∧
     yB (fun Q c x=>jH n Q w c x) (fun g=>S g∧vl.ownBlock≠some g∧vm.ownBlock≠some g) (lcs++mcs.map (fun p=>p.2)) v.kids ∧
     (Lit.int .i64 v.kind).wf=true∧(Lit.int .i64 v.num).wf=true
section
variable {α : Type} {R R' : (Nat → Prop) → List Value → α → Prop}
theorem yB.mono:∀ {P P':Nat→Prop}{cs:List (List Value)}{xs:List α},yB R P cs xs→(∀ g,P g→P' g)→yB R P' cs xs
 | _,_,[],[],_,_=>trivial
 | P,P',c::cs,x::xs,⟨Q,h1,h2,h3⟩,h=>⟨Q,fun g q=>h g (h1 g q),h2,yB.mono h3 (fun g q=>⟨h g q.1,q.2⟩)⟩
 | _,_,[],_::_,h,_=>h.elim
 | _,_,_::_,[],h,_=>h.elim
theorem yB.imp:∀ {P:Nat→Prop}{cs:List (List Value)}{xs:List α},yB R P cs xs→(∀ Q c x,(∀ g,Q g→P g)→R Q c x→R' Q c x)→yB R' P cs xs
 | _,[],[],_,_=>trivial
 | P,c::cs,x::xs,⟨Q,h1,h2,h3⟩,h=>⟨Q,h1,h Q c x h1 h2,yB.imp h3 (fun Q' c x hq r=>h Q' c x (fun g q=>(hq g q).1) r)⟩
 | _,[],_::_,h,_=>h.elim
 | _,_::_,[],h,_=>h.elim
theorem yB.app:∀ {P Q:Nat→Prop}{cs ds:List (List Value)}{xs ys:List α},yB R P cs xs→yB R Q ds ys→(∀ g,Q g→¬ P g)→yB R (fun g=>P g∨Q g) (cs++ds) (xs++ys)
 | P,Q,[],ds,[],ys,_,hr,_=>hr.mono (fun _ q=>.inr q)
 | P,Q,d::cs,ds,y::xs,ys,⟨Q1,h1,h2,h3⟩,hr,hd=>⟨Q1,fun g q=>.inl (h1 g q),h2,(yB.app h3 hr (fun g q p=>hd g q p.1)).mono (fun g q=>by
   rcases q with q | q;·exact⟨.inl q.1,q.2⟩
   ·exact⟨.inr q,fun q1=>hd g q (h1 g q1)⟩)⟩
 | _,_,[],_,_::_,_,h,_,_=>h.elim
 | _,_,_::_,_,[],_,h,_,_=>h.elim
theorem yB.snoc {P Q:Nat→Prop}{cs:List (List Value)}{xs:List α}{c:List Value}{x:α}(h:yB R P cs xs)(a:R Q c x)(hd:∀ g,Q g→¬ P g):yB R (fun g=>P g∨Q g) (cs++[c]) (xs++[x]):=
 h.app (Q:=Q) ⟨Q,fun _ q=>q,a,trivial⟩ hd
theorem yB.len:∀ {P:Nat→Prop}{cs:List (List Value)}{xs:List α},yB R P cs xs→cs.length=xs.length
 | _,[],[],_=>rfl
 | P,c::cs,x::xs,⟨Q,h1,h2,h3⟩=>by rw [XP,XP,yB.len h3]
 | _,[],_::_,h=>h.elim
 | _,_::_,[],h=>h.elim
theorem yB.one:∀ {P:Nat→Prop}{cs:List (List Value)}{xs:List α},yB R P cs xs→∀ (i:Nat) (c:List Value) (x:α),cs[i]? = some c→xs[i]? = some x→∃ Q:Nat→Prop,(∀ g,Q g→P g)∧R Q c x
 | _,[],[],_,i,_,_,h,_=>by simp at h
 | P,d::cs,y::xs,⟨Q,h1,h2,h3⟩,i,c,x,hc,hx=>by
  cases i with
  | zero=>simp at hc hx;subst hc;subst hx;exact⟨Q,h1,h2⟩
  | succ i=>obtain⟨Q',q1,q2⟩:=yB.one h3 i c x (by simpa using hc) (by simpa using hx);exact⟨Q',fun g q=>(q1 g q).1,q2⟩
 | _,[],_::_,h,_,_,_,_,_=>h.elim
 | _,_::_,[],h,_,_,_,_,_=>h.elim
end
theorem jH.kept:∀ {n:Nat}{S:Nat→Prop}{X:List Nat}{w w':World}{cs:List Value}{v:V n},jH n S w cs v→zb X w w'→(∀ k,k∈X→¬ S k)→jH n S w' cs v
 | 0,_,_,_,_,_,_,h,_,_=>h.elim
 | n+1,S,X,w,w',cs,v,h,k,hX=>by
  obtain⟨vl,vm,lcs,mcs,h1,h2,h3,h4,h5,h6,h7,h8,h9⟩:=h
  exact⟨vl,vm,lcs,mcs,h1,zk h2 k (fun g d a=>hX g a (h6 g d)),zk h3 k (fun g d a=>hX g a (h7 g d)),h4,h5,h6,h7,
   h8.imp (fun Q c x e r=>jH.kept r k (fun b f q=>hX b f (e b q).1)),h9⟩
theorem jH.k0 {S:Nat→Prop}{w a:World}{cs:List Value}{v:V n}(h:jH n S w cs v)(k:zb [] w a):jH n S a cs v:=h.kept k Wz
theorem jH.mono:∀ {n:Nat}{S T:Nat→Prop}{w:World}{cs:List Value}{v:V n},jH n S w cs v→(∀ g,S g→T g)→jH n T w cs v
 | 0,_,_,_,_,_,h,_=>h.elim
 | n+1,S,T,w,cs,v,h,hT=>by obtain⟨vl,vm,lcs,mcs,h1,h2,h3,h4,h5,h6,h7,h8,h9⟩:=h;exact⟨vl,vm,lcs,mcs,h1,h2,h3,h4,h5,fun g q=>hT g (h6 g q),fun g q=>hT g (h7 g q),h8.mono (fun g q=>⟨hT g q.1,q.2⟩),h9⟩
theorem pick_l {α:Type}{v:VS α}(b:lcs.length=v.l.length){i:Nat}(a:i<v.l.length):(lcs++mcs.map (fun p=>p.2))[i]? = lcs[i]?∧v.kids[i]? = v.l[i]?:=by
 unfold VS.kids;rw [Xz Ws,Xz a];exact⟨rfl,rfl⟩
theorem pick_m {α:Type}{v:VS α}(a:lcs.length=v.l.length)(i:Nat):(lcs++mcs.map (fun p=>p.2))[v.l.length+i]? = (mcs[i]?).map (fun p=>p.2)∧v.kids[v.l.length+i]? = (v.m[i]?).map (fun p=>p.2):=by
 unfold VS.kids;rw [Xx Ws,Xx Ws,a,Nat.add_sub_cancel_left,Xs,Xs];exact⟨rfl,rfl⟩
theorem mcs_len {α:Type}{v:VS α}(a:mcs.map (fun p=>p.1)=v.m.map (fun p=>p.1)):mcs.length=v.m.length:=by
 have:=congrArg List.length a;simpa using this
theorem mcs_key {α:Type}{v:VS α}(b:mcs.map (fun p=>p.1)=v.m.map (fun p=>p.1)){j:Nat}{p:ByteArray×List Value}{q:ByteArray×α}(hp:mcs[j]? = some p)(a:v.m[j]? = some q):p.1=q.1:=by
 have:=congrArg (fun l=>l[j]?) b;simp only [Xs,hp,a,uv,Xt] at this;exact this
theorem jH.rep:∀ {n:Nat}{S:Nat→Prop}{w:World}{cs:List Value}{v:V n},jH n S w cs v→Rep n S w cs v
 | 0,_,_,_,_,h=>h.elim
 | n+1,S,w,cs,v,h=>by
  obtain⟨vl,vm,lcs,mcs,h1,h2,h3,h4,h5,h6,h7,h8,h9,h10⟩:=h
  exact⟨vl,vm,lcs,mcs,{
   cells:=h1
   slcl:=Slc.of_row h2
   alll:=⟨h4,fun j c x hc k=>by
    have m:j<(VS.l (α:=V n) v).length:=(X6.1 k).1;obtain⟨b,e⟩:=pick_l (mcs:=mcs) h4 m;obtain⟨Q,f,a⟩:=h8.one j c x (b.trans hc) (e.trans k);exact (jH.rep a).mono (fun g _ q=>(f g q).1)⟩
   slcm:=Slc.of_row h3
   allm:=⟨mcs_len h5,fun j p q hp i=>⟨mcs_key h5 hp i,by
    obtain⟨b,e⟩:=pick_m (v:=v) (mcs:=mcs) h4 j;obtain⟨Q,f,a⟩:=h8.one _ p.2 q.2 (b.trans (by rw [hp];rfl)) (e.trans (by rw [i];rfl));exact (jH.rep a).mono (fun g _ q=>(f g q).1)⟩⟩
   inl:=fun g d=>h6 g (yL d)
   inm:=fun g d=>h7 g (yL d)
   wfk:=h9
   wfn:=h10 }⟩
structure CloneDL {n:Nat}(W:World)(b3:Nat)(v:VS (V n))(k:Nat)(wr:World)(vl:Value)(lcs:List (List Value)):Prop where
 blk:wr.heap[b3]? = some (.cells (xD v.kind v.num v.s vl (.slice none 0 0)) 25 (0,0))
 row:wr.ownsRow W.heap.size 25 5 vl k lcs.flatten
 all:yB (fun Q c x=>jH n Q wr c x) (fun g=>W.heap.size≤g∧g<wr.heap.size∧vl.ownBlock≠some g) lcs (v.l.take k)
 kept:zb [b3] W wr
structure CloneDM {n:Nat}(W:World)(b3:Nat)(v:VS (V n))(vl:Value)(k:Nat)(wr:World)(vm:Value)(mcs:List (ByteArray×List Value)):Prop where
 blk:wr.heap[b3]? = some (.cells (xD v.kind v.num v.s vl vm) 25 (0,0))
 row:wr.ownsRow W.heap.size 41 6 vm k (yM mcs)
 all:yB (fun Q c x=>jH n Q wr c x) (fun g=>W.heap.size≤g∧g<wr.heap.size∧vm.ownBlock≠some g) (mcs.map (fun p=>p.2)) ((v.m.take k).map (fun p=>p.2))
 keys:mcs.map (fun p=>p.1)=(v.m.take k).map (fun p=>p.1)
 kept:zb [b3] W wr
def Qo (n : Nat) : Prop := ∀ (v : V n) {S : Nat → Prop} {w : World} {cs : List Value}, Rep n S w cs v → zP n v →
    Calls prog 53 #[.agg cs.toArray] w fun e w'=>(∃ cs':List Value,e = .returned (.agg cs'.toArray)∧jH n (fun g=>w.heap.size≤g∧g<w'.heap.size) w' cs' v)∧zb [] w w'
theorem cloneD_step (aw:Qo n):Qo (n+1):=fun (v:VS (V n)) {S}{w}{cs} h hs=>by
  have Jb:=qI h;have Gz:=qI hs;obtain⟨vl,vm,lcs,mcs,h⟩:=h;obtain⟨a,c,b,e,rfl,rfl,rfl⟩:=h.forms;have H:=qI h;have IH:=qI aw;have a8:v.l.length≤20000:=XC hs.few;have aB:v.m.length≤20000:=XC hs.few;obtain⟨W0,Gq⟩:=XE (((w.alloc (.cells #[.int .i64 v.kind,.int .i64 v.num,.string v.s,.slice a v.l.length c,.slice b v.m.length e] 25)).alloc (.cells #[.int .i64 0,.int .i64 0,.string ⟨#[]⟩,.slice none 0 0,.slice none 0 0] 25)).alloc (.cells #[.int .i64 v.kind,.int .i64 v.num,.string v.s,.slice none 0 0,.slice none 0 0] 25));have Gr:Hid (W0.heap.size=w.heap.size+3):=qI (by rw [Gq.o];simp);have Jc:Hid (zb [] w W0):=qI (kA3 Gq.o);have Jd:Hid (W0.heap[w.heap.size]? = some (.cells (xD v.kind v.num v.s (.slice a v.l.length c) (.slice b v.m.length e)) 25 (0,0))):=qI (by
   rw [Gq.o];exact (((zb.refl [] _).alloc _).alloc _).heap (zd rfl) Wz)
  have Ja:Hid (W0.heap[w.heap.size+1]? = some (.cells #[.int .i64 0,.int .i64 0,.string ⟨#[]⟩,.slice none 0 0,.slice none 0 0] 25 (0,0))):=qI (by
   rw [Gq.o];exact ((zb.refl [] _).alloc _).heap (zd Wz) Wz)
  have Je:Hid (W0.heap[w.heap.size+1+1]? = some (.cells (xD v.kind v.num v.s (.slice none 0 0) (.slice none 0 0)) 25 (0,0))):=qI (by
   rw [Gq.o];exact zd Wz)
  obtain⟨c0,c1,c2,c3,c4⟩:=xr w v.kind v.num v.s (.slice a v.l.length c) (.slice b v.m.length e) 25;clear h hs;go_enter func53,ntmps53;go_wp2_with fail;rw [← Gq.o];clear c0 c1 c2 c3 c4;go_loopw [14] (fun i wr=>∃ (k:Nat) (vl:Value) (lcs':List (List Value)),i = .int .i64 k∧k≤v.l.length∧CloneDL W0 (w.heap.size+1+1) v k wr vl lcs') (fun i _=>v.l.length-(intOf i).toNat);case atStart=>
   exact⟨0,.slice none 0 0,[],rfl,XB,{
    blk:=Je.o
    row:=World.ownsRow_nil _ _ _ _
    all:=trivial
    kept:=Wd }⟩
  case round=>
   obtain⟨k,vk,lk,rfl,hk,hc⟩:=hrel;have f:=qI hc;have Gs:Hid (zb [] w wr):=qI (Jc.o.trans hc.kept (by intro i hi;simp at hi;subst hi;exact .inr Ws));clear hc;by_cases ad:k<v.l.length
   ·have ay:(k:Int)<v.l.length:=by omega
    obtain⟨g,o,cap,kd,C,st,a1,b1,he,q0,q1,q2,q3,q4,hr⟩:=H.o.at_l Gs.o k ad;simp only [XU] at he;obtain⟨rfl,-,rfl⟩:=he;obtain⟨U,N,rfl,-,-⟩:=(Slc.of_row f.o.row).form;obtain⟨E,D,y,p2,B,z,rfl,rfl⟩:=hr.sl;have HR:=qI hr;have Gv:=qI (Gz.o.kid (YP (XX ad)));have am:=f.o.blk;have f3:=za (o:=3) am rfl;clear hr am;go_wp2_with fail;have g3:=((zb.refl [] wr).alloc (.cells #[.int .i64 kd,.int .i64 C,.string st,.slice E D y,.slice p2 B z] 25)).cell f3 Wz;obtain⟨e0,e1,e2,e3,e4⟩:=xr wr kd C st (.slice E D y) (.slice p2 B z) 25;have Gt:=qI ((zb.refl [] wr).alloc (.cells #[.int .i64 kd,.int .i64 C,.string st,.slice E D y,.slice p2 B z] 25));have HE:=qI (xr wr kd C st (.slice E D y) (.slice p2 B z) 25);have ab:=f.o.row.lt;have az:w.heap.size+1+1<wr.heap.size:=lt_of_block f.o.blk;have Gi:=qI ab;clear ab e0 e1 e2 e3 e4 q0 q1 q2 q3 q4;refine zu (n:=8) (fun w':World=>w'.cell? ⟨w.heap.size+1+1,3,none⟩=some (.slice U k N)∧yA w' wr.heap.size kd C st (.slice E D y) (.slice p2 B z)) 7 Wr Wr ?_;have d:(fun w':World=>w'.cell? ⟨w.heap.size+1+1,3,none⟩=some (.slice U k N)∧yA w' wr.heap.size kd C st (.slice E D y) (.slice p2 B z)) ((wr.alloc (.cells #[.int .i64 kd,.int .i64 C,.string st,.slice E D y,.slice p2 B z] 25)).drew):=⟨g3,HE.o.k0 Wd.drew⟩;have Gj:Hid (zb [] wr ((wr.alloc (.cells #[.int .i64 kd,.int .i64 C,.string st,.slice E D y,.slice p2 B z] 25)).drew)):=qI Gt.o.drew;have Gc:Hid (((wr.alloc (.cells #[.int .i64 kd,.int .i64 C,.string st,.slice E D y,.slice p2 B z] 25)).drew).heap.size=wr.heap.size+1):=qI Wz;change zT _ _ _ _ _ _ _ _ _ ((wr.alloc (.cells #[.int .i64 kd,.int .i64 C,.string st,.slice E D y,.slice p2 B z] 25)).drew);clear HE Gt g3;revert d Gj Gc;generalize (wr.alloc (.cells #[.int .i64 kd,.int .i64 C,.string st,.slice E D y,.slice p2 B z] 25)).drew=W2;intro d Gj Gc;refine zF ?_;intro O R F hR;have G:jA R:=by subst hR;exact fun _ _ _ _ _ h=>h
    refine qT 0 ?_ F rfl rfl Wr G (fun w t=>?_) d ?_;rotate_left;·exact zg
    try simp only [XI]
    refine qT 1 ?_ F rfl rfl Wr G (fun w t=>?_) d ?_;rotate_left;·have I:=t.1;exact zg
    try simp only [XI]
    refine qT 2 ?_ F rfl rfl Wr G (fun w t=>?_) d ?_;rotate_left;·obtain⟨s0,s1,s2,I,s4⟩:=t.2;exact zg
    try simp only [XI]
    refine qO 3 F rfl Wr (fun K j=>?_);go_simp;refine Calls.mono (IH.o v.l[k] (HR.o.k0 Gj.o) Gv.o) ?_;rintro e w3 ⟨⟨a5,rfl,L⟩,J⟩;have A:=L.rep;obtain⟨k3,m3,I,l3,r3,rfl⟩:=A.five;obtain⟨p3,i3,d3,p4,i4,d4,rfl,rfl⟩:=A.sl;have Gf:=qI A;have Gw:=qI L;have Gg:=qI (Gj.o.trans' J);have ag:(fun w':World=>w'.cell? ⟨w.heap.size+1+1,3,none⟩=some (.slice U k N)∧yA w' wr.heap.size kd C st (.slice E D y) (.slice p2 B z)) w3:=⟨J.cell d.1 Wz,d.2.k0 J⟩;have ae:=J.size;clear L A J;refine j _ _ (.inr ag) ?_;clear j K;try simp only [XI]
    clear d;have d:=ag;clear ag;refine qO 4 F rfl Wr (fun K j=>?_);go_simp;have W:=qI ((zb.refl [] w3).alloc (.cells #[.int .i64 k3,.int .i64 m3,.string I,.slice p3 i3 d3,.slice p4 i4 d4] 25));have Gd:=qI (yE w3 [.int .i64 k3,.int .i64 m3,.string I,.slice p3 i3 d3,.slice p4 i4 d4] 5 1 25 w3.heap.size rfl rfl Wo);have ah:(fun w':World=>w'.cell? ⟨w.heap.size+1+1,3,none⟩=some (.slice U k N)∧yA w' wr.heap.size kd C st (.slice E D y) (.slice p2 B z)) (w3.alloc (.cells #[.int .i64 k3,.int .i64 m3,.string I,.slice p3 i3 d3,.slice p4 i4 d4] 25)):=⟨W.o.cell d.1 Wz,d.2.k0 W.o⟩;have Ge:Hid ((w3.alloc (.cells #[.int .i64 k3,.int .i64 m3,.string I,.slice p3 i3 d3,.slice p4 i4 d4] 25)).heap.size=w3.heap.size+1):=qI Wz;refine j _ _ (.inr ah) ?_;clear j K;try simp only [XI]
    clear d;have d:=ah;clear ah;revert d W Gd Ge;generalize w3.alloc (.cells #[.int .i64 k3,.int .i64 m3,.string I,.slice p3 i3 d3,.slice p4 i4 d4] 25)=w4;intro W Gd Ge d;have Gh:=qI (zk f.o.row (Gg.o.trans' W.o) Wz);have Gm:=qI ae;clear ae;refine qO 5 F rfl Wr (fun K j=>?_);refine qM Kr Gh.o Gd.o Gf.o.one (by simp only [maxLen];omega) Ws (by have h1:=(Gg.o.trans' W.o).size;have h2:=f.o.kept.size;omega) (.tmp 19) (.tmp 22) rfl rfl rfl ?_;intro b5 d5 w5 P aa ao;have ai:(fun w':World=>w'.cell? ⟨w.heap.size+1+1,3,none⟩=some (.slice U k N)∧yA w' wr.heap.size kd C st (.slice E D y) (.slice p2 B z)) w5:=by refine⟨aa.cell d.1 (by intro Z;have:=(Gi.o _ (XD Z)).1;have h2:=Gr.o;simp at this;omega),d.2.kept aa (by intro Z;have:=(Gi.o _ (XD Z)).2;omega)⟩
    refine j _ _ (.inr ai) ?_;clear j K;try simp only [XI]
    clear d;have d:=ai;clear ai;have Gb:=qI P;have Gn:=qI aa;have Gx:=qI ao;clear P aa ao;refine qO 6 F rfl Wr (fun K j=>?_);go_simp;refine j _ _ (.inr d) ?_;clear j K;try simp only [XI]
    have Gp:Hid (w5.heap[w.heap.size+1+1]? = some (.cells (xD v.kind v.num v.s (.slice U k N) (.slice none 0 0)) 25 (0,0))):=qI (Gn.o.heap ((Gg.o.trans' W.o).heap f.o.blk Wz) (by intro Z;have:=(Gi.o _ (XD Z)).1;have h2:=Gr.o;omega));have ax:=za (o:=3) Gp.o rfl;have av:=zh (o:=3) Gp.o;refine qO 7 F rfl Wr (fun K j=>?_);go_simp;refine j _ _ (.inl rfl) ?_;clear j K;try simp only [XI]
    refine zE F Wr ?_ _;subst hR;try clear G F O
    clear ax av d;go_wp2;case roundEnd=>
     have hz:=Gr.o;have a7:=Gc.o;have a6:=Gm.o;have a4:=Ge.o;have af:=Gi.o;have KX:zb ((w.heap.size+1+1)::(Value.slice U k N).ownBlock.toList) w4 (w5.setCell ⟨w.heap.size+1+1,3,none⟩ (.slice b5 (k+1) d5)):=(Gn.o.mono (Y:=(w.heap.size+1+1)::(Value.slice U k N).ownBlock.toList) (fun i hi=>Xj _ hi)).setCell (p:=⟨w.heap.size+1+1,3,none⟩) (.inl (Xp ..)) _;have ap:∀ g,(Value.slice b5 (k+1) d5).ownBlock=some g→(Value.slice U k N).ownBlock=some g∨g=w4.heap.size:=fun g hg=>by
      rcases Gx.o with h | h;·exact .inl (by rw [← h];exact hg)
      ·exact .inr (by rw [hg] at h;exact Option.some.inj h)
     refine⟨⟨k+1,_,lk++[[.int .i64 k3,.int .i64 m3,.string I,.slice p3 i3 d3,.slice p4 i4 d4]],by go_num,Ws,{
      blk:=ze Gp.o rfl
      row:=?_
      all:=?_
      kept:=?_ }⟩,by simp [intOf];omega⟩
     ·rw [X5];simp only [Xu,uX,Xn];exact zk Gb.o ((zb.refl [w.heap.size+1+1] w5).setCell (.inl Wz) _) (by
       intro g hg Z;simp at Z;have:=(Gb.o.lt g hg).1;omega)
     ·rw [XZ ad];have KA:=(((Gg.o.trans' W.o).mono (Y:=(w.heap.size+1+1)::(Value.slice U k N).ownBlock.toList) Wz).trans' KX);have KB:=((W.o.mono (Y:=(w.heap.size+1+1)::(Value.slice U k N).ownBlock.toList) Wz).trans' KX);have a2:=KX.size;refine ((f.o.all.imp (fun Q c x hq r=>r.kept KA (fun b hb X=>?_))).snoc (Gw.o.kept KB (fun b hb X=>?_)) (fun g q p=>?_)).mono (fun g q=>?_)
      ·obtain⟨h0,h1,h2⟩:=hq b X;rcases XY.1 hb with rfl | hb;·omega
       ·exact h2 (XD hb)
      ·rcases XY.1 hb with rfl | hb;·have:=f.o.kept.size;omega
       ·have:=(af b (XD hb)).2;omega
      ·omega
      ·have a0:=f.o.kept.size;rcases q with ⟨h0,h1,h2⟩ | ⟨h0,h1⟩
       ·refine⟨h0,Ws,fun h3=>?_⟩;rcases ap g h3 with h4 | h4
        ·exact h2 h4
        ·omega
       ·refine⟨Ws,Ws,fun h3=>?_⟩;rcases ap g h3 with h4 | h4
        ·have:=(af g h4).2;omega
        ·omega
     ·exact ((f.o.kept.then (Gg.o.trans' W.o)).trans Gn.o (fun i hi=>.inr (af i (XD hi)).1)).setCell (.inl Wz) _
   ·obtain rfl:k=v.l.length:=by omega
    obtain⟨WL,rfl⟩:=XF wr;have Gl:=qI f.o;have Gu:=qI Gs.o;have Gk:Hid (w.heap.size+3≤WL.heap.size):=qI (by have h1:=f.o.kept.size;have h2:=Gr.o;omega);have Jf:Hid (WL.heap[w.heap.size]? = some (.cells (xD v.kind v.num v.s (.slice a v.l.length c) (.slice b v.m.length e)) 25 (0,0))):=qI (f.o.kept.heap Jd.o (by simp;omega));obtain⟨vL,rfl⟩:=XF vk;obtain⟨lL,rfl⟩:=XF lk;have a3:=za (o:=4) (v:=.slice b v.m.length e) Jf.o rfl;go_wp2_with fail;clear a3 f Gs;go_loopw [29] (fun i wr=>∃ (k:Nat) (vm:Value) (mc:List (ByteArray×List Value)),i = .int .i64 k∧k≤v.m.length∧CloneDM WL (w.heap.size+1+1) v vL k wr vm mc) (fun i _=>v.m.length-(intOf i).toNat);case atStart=>
     exact⟨0,.slice none 0 0,[],rfl,XB,{
      blk:=Gl.o.blk
      row:=World.ownsRow_nil _ _ _ _
      all:=trivial
      keys:=rfl
      kept:=Wd }⟩
    case round=>
     obtain⟨k,vk,lk,rfl,hk,hc⟩:=hrel;have f:=qI hc;have Gs:Hid (zb [] w wr):=qI (Gu.o.trans hc.kept (by intro i hi;simp at hi;subst hi;exact .inr Ws));clear hc;by_cases ad:k<v.m.length
     ·have ay:(k:Int)<v.m.length:=by omega
      obtain⟨g,o,cap,kd,C,st,a1,b1,he,q0,q1,q2,q3,q4,q5,hr⟩:=H.o.at_m Gs.o k ad;simp only [XU] at he;obtain⟨rfl,-,rfl⟩:=he;obtain⟨U,N,rfl,-,-⟩:=(Slc.of_row f.o.row).form;obtain⟨E,D,y,p2,B,z,rfl,rfl⟩:=hr.sl;have HR:=qI hr;have Gv:=qI (Gz.o.kid (Zj (XX ad)));have am:=f.o.blk;have f3:=za (o:=4) am rfl;clear hr am;generalize au:v.m[k].1=key at q0;have Gy:=qI au;clear au;go_wp2_with fail;have g3:=((zb.refl [] wr).alloc (.cells #[.string key,.int .i64 kd,.int .i64 C,.string st,.slice E D y,.slice p2 B z] 41)).cell f3 Wz;have Gt:=qI ((zb.refl [] wr).alloc (.cells #[.string key,.int .i64 kd,.int .i64 C,.string st,.slice E D y,.slice p2 B z] 41));have HE:=qI (pbox_at (w:=wr) rfl key kd C st (.slice E D y) (.slice p2 B z) 41);have ab:=f.o.row.lt;have az:w.heap.size+1+1<wr.heap.size:=lt_of_block f.o.blk;have Gi:=qI ab;clear ab q0 q1 q2 q3 q4 q5;refine zu (n:=12) (fun w':World=>w'.cell? ⟨w.heap.size+1+1,4,none⟩=some (.slice U k N)∧vG w' wr.heap.size key kd C st (.slice E D y) (.slice p2 B z)) 11 Wr Wr ?_;have d:(fun w':World=>w'.cell? ⟨w.heap.size+1+1,4,none⟩=some (.slice U k N)∧vG w' wr.heap.size key kd C st (.slice E D y) (.slice p2 B z)) ((wr.alloc (.cells #[.string key,.int .i64 kd,.int .i64 C,.string st,.slice E D y,.slice p2 B z] 41)).drew):=⟨g3,HE.o.k0 Wd.drew⟩;have Gj:Hid (zb [] wr ((wr.alloc (.cells #[.string key,.int .i64 kd,.int .i64 C,.string st,.slice E D y,.slice p2 B z] 41)).drew)):=qI Gt.o.drew;have Gc:Hid (((wr.alloc (.cells #[.string key,.int .i64 kd,.int .i64 C,.string st,.slice E D y,.slice p2 B z] 41)).drew).heap.size=wr.heap.size+1):=qI Wz;change zT _ _ _ _ _ _ _ _ _ ((wr.alloc (.cells #[.string key,.int .i64 kd,.int .i64 C,.string st,.slice E D y,.slice p2 B z] 41)).drew);clear HE Gt g3;revert d Gj Gc;generalize (wr.alloc (.cells #[.string key,.int .i64 kd,.int .i64 C,.string st,.slice E D y,.slice p2 B z] 41)).drew=W2;intro d Gj Gc;refine zF ?_;intro O R F hR;have G:jA R:=by subst hR;exact fun _ _ _ _ _ h=>h
      refine qT 0 ?_ F rfl rfl Wr G (fun w t=>?_) d ?_;rotate_left;·exact zg
      try simp only [XI]
      refine qT 1 ?_ F rfl rfl Wr G (fun w t=>?_) d ?_;rotate_left;·have I:=t.1;exact zg
      try simp only [XI]
      refine qT 2 ?_ F rfl rfl Wr G (fun w t=>?_) d ?_;rotate_left;·obtain⟨s0,s1,s2,I,s4,s5⟩:=t.2;exact zg
      try simp only [XI]
      refine qT 3 ?_ F rfl rfl Wr G (fun w t=>?_) d ?_;rotate_left;·obtain⟨s0,s1,s2,I,s4,s5⟩:=t.2;exact zg
      try simp only [XI]
      refine qT 4 ?_ F rfl rfl Wr G (fun w t=>?_) d ?_;rotate_left;·obtain⟨s0,s1,s2,I,s4,s5⟩:=t.2;exact zg
      try simp only [XI]
      refine qT 5 ?_ F rfl rfl Wr G (fun w t=>?_) d ?_;rotate_left;·obtain⟨s0,s1,s2,I,s4,s5⟩:=t.2;exact zg
      try simp only [XI]
      refine qO 6 F rfl Wr (fun K j=>?_);go_simp;refine Calls.mono (IH.o v.m[k].2 (HR.o.k0 Gj.o) Gv.o) ?_;rintro e w3 ⟨⟨a5,rfl,L⟩,J⟩;have A:=L.rep;obtain⟨k3,m3,I,l3,r3,rfl⟩:=A.five;obtain⟨p3,i3,d3,p4,i4,d4,rfl,rfl⟩:=A.sl;have Gf:=qI A;have Gw:=qI L;have Gg:=qI (Gj.o.trans' J);have ag:(fun w':World=>w'.cell? ⟨w.heap.size+1+1,4,none⟩=some (.slice U k N)∧vG w' wr.heap.size key kd C st (.slice E D y) (.slice p2 B z)) w3:=⟨J.cell d.1 Wz,d.2.k0 J⟩;have ae:=J.size;clear L A J;refine j _ _ (.inr ag) ?_;clear j K;try simp only [XI]
      clear d;have d:=ag;clear ag;refine qO 7 F rfl Wr (fun K j=>?_);go_simp;refine j _ _ (.inr d) ?_;clear j K;try simp only [XI]
      refine qO 8 F rfl Wr (fun K j=>?_);go_simp;have W:=qI ((zb.refl [] w3).alloc (.cells #[.string key,.int .i64 k3,.int .i64 m3,.string I,.slice p3 i3 d3,.slice p4 i4 d4] 41));have Gd:=qI (yE w3 [.string key,.int .i64 k3,.int .i64 m3,.string I,.slice p3 i3 d3,.slice p4 i4 d4] 6 1 41 w3.heap.size rfl rfl Wo);have ah:(fun w':World=>w'.cell? ⟨w.heap.size+1+1,4,none⟩=some (.slice U k N)∧vG w' wr.heap.size key kd C st (.slice E D y) (.slice p2 B z)) (w3.alloc (.cells #[.string key,.int .i64 k3,.int .i64 m3,.string I,.slice p3 i3 d3,.slice p4 i4 d4] 41)):=⟨W.o.cell d.1 Wz,d.2.k0 W.o⟩;have Ge:Hid ((w3.alloc (.cells #[.string key,.int .i64 k3,.int .i64 m3,.string I,.slice p3 i3 d3,.slice p4 i4 d4] 41)).heap.size=w3.heap.size+1):=qI Wz;refine j _ _ (.inr ah) ?_;clear j K;try simp only [XI]
      clear d;have d:=ah;clear ah;revert d W Gd Ge;generalize w3.alloc (.cells #[.string key,.int .i64 k3,.int .i64 m3,.string I,.slice p3 i3 d3,.slice p4 i4 d4] 41)=w4;intro W Gd Ge d;have Gh:=qI (zk f.o.row (Gg.o.trans' W.o) Wz);have Gm:=qI ae;clear ae;refine qO 9 F rfl Wr (fun K j=>?_);refine qM za1 Gh.o Gd.o (by intro u hu;rcases XY.1 hu with rfl | hu <;> first | rfl | exact Gf.o.one u hu) (by simp only [maxLen];omega) Ws (by have h1:=(Gg.o.trans' W.o).size;have h2:=f.o.kept.size;omega) (.tmp 34) (.tmp 41) rfl rfl rfl ?_;intro b5 d5 w5 P aa ao;have ai:(fun w':World=>w'.cell? ⟨w.heap.size+1+1,4,none⟩=some (.slice U k N)∧vG w' wr.heap.size key kd C st (.slice E D y) (.slice p2 B z)) w5:=by refine⟨aa.cell d.1 (by intro Z;have:=(Gi.o _ (XD Z)).1;have h2:=Gk.o;simp at this;omega),d.2.kept aa (by intro Z;have:=(Gi.o _ (XD Z)).2;omega)⟩
      refine j _ _ (.inr ai) ?_;clear j K;try simp only [XI]
      clear d;have d:=ai;clear ai;have Gb:=qI P;have Gn:=qI aa;have Gx:=qI ao;clear P aa ao;refine qO 10 F rfl Wr (fun K j=>?_);go_simp;refine j _ _ (.inr d) ?_;clear j K;try simp only [XI]
      have Gp:Hid (w5.heap[w.heap.size+1+1]? = some (.cells (xD v.kind v.num v.s vL (.slice U k N)) 25 (0,0))):=qI (Gn.o.heap ((Gg.o.trans' W.o).heap f.o.blk Wz) (by intro Z;have:=(Gi.o _ (XD Z)).1;have h2:=Gk.o;omega));have ax:=za (o:=4) Gp.o rfl;have av:=zh (o:=4) Gp.o;refine qO 11 F rfl Wr (fun K j=>?_);go_simp;refine j _ _ (.inl rfl) ?_;clear j K;try simp only [XI]
      refine zE F Wr ?_ _;subst hR;try clear G F O
      clear ax av d;go_wp2;case roundEnd=>
       have hz:=Gk.o;have a7:=Gc.o;have a6:=Gm.o;have a4:=Ge.o;have af:=Gi.o;have KX:zb ((w.heap.size+1+1)::(Value.slice U k N).ownBlock.toList) w4 (w5.setCell ⟨w.heap.size+1+1,4,none⟩ (.slice b5 (k+1) d5)):=(Gn.o.mono (Y:=(w.heap.size+1+1)::(Value.slice U k N).ownBlock.toList) (fun i hi=>Xj _ hi)).setCell (p:=⟨w.heap.size+1+1,4,none⟩) (.inl (Xp ..)) _;have ap:∀ g,(Value.slice b5 (k+1) d5).ownBlock=some g→(Value.slice U k N).ownBlock=some g∨g=w4.heap.size:=fun g hg=>by
        rcases Gx.o with h | h;·exact .inl (by rw [← h];exact hg)
        ·exact .inr (by rw [hg] at h;exact Option.some.inj h)
       refine⟨⟨k+1,_,lk++[(key,[.int .i64 k3,.int .i64 m3,.string I,.slice p3 i3 d3,.slice p4 i4 d4])],by go_num,Ws,{
        blk:=ze Gp.o rfl
        row:=?_
        all:=?_
        keys:=?_
        kept:=?_ }⟩,by simp [intOf];omega⟩
       ·rw [show yM (lk++[(key,[.int .i64 k3,.int .i64 m3,.string I,.slice p3 i3 d3,.slice p4 i4 d4])])=yM lk++[.string key,.int .i64 k3,.int .i64 m3,.string I,.slice p3 i3 d3,.slice p4 i4 d4] by simp [yM,xA]];exact zk Gb.o ((zb.refl [w.heap.size+1+1] w5).setCell (.inl Wz) _) (by
         intro g hg Z;simp at Z;have:=(Gb.o.lt g hg).1;omega)
       ·rw [XZ ad,Xc,Xc];have KA:=(((Gg.o.trans' W.o).mono (Y:=(w.heap.size+1+1)::(Value.slice U k N).ownBlock.toList) Wz).trans' KX);have KB:=((W.o.mono (Y:=(w.heap.size+1+1)::(Value.slice U k N).ownBlock.toList) Wz).trans' KX);have a2:=KX.size;refine ((f.o.all.imp (fun Q c x hq r=>r.kept KA (fun b hb X=>?_))).snoc (Gw.o.kept KB (fun b hb X=>?_)) (fun g q p=>?_)).mono (fun g q=>?_)
        ·obtain⟨h0,h1,h2⟩:=hq b X;rcases XY.1 hb with rfl | hb;·omega
         ·exact h2 (XD hb)
        ·rcases XY.1 hb with rfl | hb;·have:=f.o.kept.size;omega
         ·have:=(af b (XD hb)).2;omega
        ·omega
        ·have a0:=f.o.kept.size;rcases q with ⟨h0,h1,h2⟩ | ⟨h0,h1⟩
         ·refine⟨h0,Ws,fun h3=>?_⟩;rcases ap g h3 with h4 | h4
          ·exact h2 h4
          ·omega
         ·refine⟨Ws,Ws,fun h3=>?_⟩;rcases ap g h3 with h4 | h4
          ·have:=(af g h4).2;omega
          ·omega
       ·rw [XZ ad,Xc,Xc,f.o.keys];simp [Gy.o]
       ·exact ((f.o.kept.then (Gg.o.trans' W.o)).trans Gn.o (fun i hi=>.inr (af i (XD hi)).1)).setCell (.inl Wz) _
     ·obtain rfl:k=v.m.length:=by omega
      have aj:=f.o.blk;have d0:=za (o:=0) (v:=.int .i64 v.kind) aj rfl;have y:=za (o:=1) (v:=.int .i64 v.num) aj rfl;have z:=za (o:=2) (v:=.string v.s) aj rfl;have d3:=za (o:=3) (v:=vL) aj rfl;have d4:=za (o:=4) (v:=vk) aj rfl;have M:=f.o.kept.heap (Gl.o.kept.heap Ja.o Wz) Wz;obtain⟨aL,cL,rfl,-,-⟩:=(Slc.of_row Gl.o.row).form;obtain⟨aM,cM,rfl,-,-⟩:=(Slc.of_row f.o.row).form;have r0:=za (o:=0) (v:=.int .i64 0) M rfl;have r1:=za (o:=1) (v:=.int .i64 0) M rfl;have r2:=za (o:=2) (v:=.string ⟨#[]⟩) M rfl;have r3:=za (o:=3) (v:=.slice none 0 0) M rfl;have r4:=za (o:=4) (v:=.slice none 0 0) M rfl;have s0:=zh (o:=0) M;have s1:=zh (o:=1) M;have s2:=zh (o:=2) M;have I:=zh (o:=3) M;have s4:=zh (o:=4) M;clear aj M;go_wp2_with fail;have KF:zb [w.heap.size+1] wr (((((wr.setCell ⟨w.heap.size+1,0,none⟩ (.int .i64 v.kind)).setCell ⟨w.heap.size+1,1,none⟩ (.int .i64 v.num)).setCell ⟨w.heap.size+1,2,none⟩ (.string v.s)).setCell ⟨w.heap.size+1,3,none⟩ (.slice aL v.l.length cL)).setCell ⟨w.heap.size+1,4,none⟩ (.slice aM v.m.length cM)):=
       ((((Wd.setCell (p:=⟨w.heap.size+1,0,none⟩) (.inl Wz) _).setCell (p:=⟨w.heap.size+1,1,none⟩) (.inl Wz) _).setCell (p:=⟨w.heap.size+1,2,none⟩) (.inl Wz) _).setCell (p:=⟨w.heap.size+1,3,none⟩) (.inl Wz) _).setCell (p:=⟨w.heap.size+1,4,none⟩) (.inl Wz) _
      have al:=ze (v:=.slice aM v.m.length cM) (i:=4) (ze (v:=.slice aL v.l.length cL) (i:=3) (ze (v:=.string v.s) (i:=2) (ze (v:=.int .i64 v.num) (i:=1) (ze (v:=.int .i64 v.kind) (i:=0) (f.o.kept.heap (Gl.o.kept.heap Ja.o Wz) Wz) rfl) rfl) rfl) rfl) rfl;have x0:=za (o:=0) (v:=.int .i64 v.kind) al rfl;have x1:=za (o:=1) (v:=.int .i64 v.num) al rfl;have x2:=za (o:=2) (v:=.string v.s) al rfl;have x3:=za (o:=3) (v:=.slice aL v.l.length cL) al rfl;have x4:=za (o:=4) (v:=.slice aM v.m.length cM) al rfl;clear al d0 y z d3 d4 r0 r1 r2 r3 r4 s0 s1 s2 I s4;revert KF x0 x1 x2 x3 x4;generalize ((((wr.setCell ⟨w.heap.size+1,0,none⟩ (.int .i64 v.kind)).setCell ⟨w.heap.size+1,1,none⟩ (.int .i64 v.num)).setCell ⟨w.heap.size+1,2,none⟩ (.string v.s)).setCell ⟨w.heap.size+1,3,none⟩ (.slice aL v.l.length cL)).setCell ⟨w.heap.size+1,4,none⟩ (.slice aM v.m.length cM)=WF;intro KF x0 x1 x2 x3 x4;have a9:=Gk.o;have a0:=Gr.o;have aq:=Gl.o.row.lt;have ar:=f.o.row.lt;have aA:=f.o.kept.size;have an:zb [w.heap.size+1,w.heap.size+1+1] WL WF:=(f.o.kept.mono Wz).trans' (KF.mono Wz);refine bodyPost_ret (v:=.agg #[.int .i64 v.kind,.int .i64 v.num,.string v.s,.slice aL v.l.length cL,.slice aM v.m.length cM]) (by simp [results,results53,go_sem,x0,x1,x2,x3,x4]) rfl ⟨⟨[.int .i64 v.kind,.int .i64 v.num,.string v.s,.slice aL v.l.length cL,.slice aM v.m.length cM],rfl,_,_,lL,lk,rfl,?_,?_,?_,?_,?_,?_,?_,H.o.wfk,H.o.wfn⟩,?_⟩;·exact qA (zk Gl.o.row an (fun g hg Z=>by have:=aq g hg;simp at Z;omega)) (fun _ _=>XB)
      ·exact qA (zk f.o.row KF (fun g hg Z=>by have:=ar g hg;simp at Z;omega)) (fun _ _=>XB)
      ·have:=Gl.o.all.len
       rwa [Xw] at this
      ·have:=f.o.keys
       rwa [Xw] at this
      ·intro g hg;have:=aq g hg;have:=an.size;exact⟨Ws,Ws⟩
      ·intro g hg;have:=ar g hg;have:=KF.size;exact⟨Ws,Ws⟩
      ·have h1:=Gl.o.all;have h2:=f.o.all;rw [Xw] at h1 h2;have a2:=an.size;have aC:=KF.size;refine (yB.app (h1.imp (fun Q c x hq r=>r.kept an (fun b hb X=>?_))) (h2.imp (fun Q c x hq r=>r.kept KF (fun b hb X=>?_))) (fun g q p=>?_)).mono (fun g q=>?_);·have:=hq b X;simp at hb;omega
       ·have:=hq b X;simp at hb;omega
       ·omega
       ·rcases q with ⟨h0,h1,h2⟩ | ⟨h0,h1,h2⟩;·exact⟨⟨Ws,Ws⟩,h2,fun h4=>by have:=(ar g h4).1;omega⟩
        ·exact⟨⟨Ws,Ws⟩,fun h4=>by have:=(aq g h4).2;omega,h2⟩
      ·exact Gu.o.trans an (fun i hi=>by simp at hi;omega)
theorem zbE:∀ (n:Nat),Qo n
 | 0=>fun v {_}{_}{_} h _=>h.elim
 | n+1=>cloneD_step (zbE n)
theorem Z9:∀ (n:Nat) (v:V n) {S:Nat→Prop}{w:World}{cs:List Value},Rep n S w cs v→zP n v→Calls prog 53 #[.agg cs.toArray] w fun e w'=>(∃ cs':List Value,e = .returned (.agg cs'.toArray)∧jH n (fun g=>w.heap.size≤g∧g<w'.heap.size) w' cs' v)∧zb [] w w':=fun n=>zbE n
theorem jH.own:∀ {n:Nat}{S:Nat→Prop}{B:Nat}{w:World}{cs:List Value}{v:V n},jH n S w cs v→(∀ g,S g→B≤g)→yC n B w cs v
 | 0,_,_,_,_,_,h,_=>h.elim
 | n+1,S,B,w,cs,v,h,hS=>by
  obtain⟨vl,vm,lcs,mcs,h1,h2,h3,h4,h5,h6,h7,h8,h9⟩:=h;refine⟨vl,vm,lcs,mcs,h1,qA h2 (fun g e=>hS g (h6 g e)),⟨h4,fun j c x hc k=>?_⟩,qA h3 (fun g e=>hS g (h7 g e)),⟨mcs_len h5,fun j p q hp i=>⟨mcs_key h5 hp i,?_⟩⟩,h9⟩;·have m:j<(VS.l (α:=V n) v).length:=(X6.1 k).1;obtain⟨d,f⟩:=pick_l (mcs:=mcs) h4 m;obtain⟨Q,a,b⟩:=h8.one j c x (d.trans hc) (f.trans k);exact (jH.rep b).mono (fun g _ q=>⟨hS g (a g q).1,(a g q).2⟩)
  ·obtain⟨d,f⟩:=pick_m (v:=v) (mcs:=mcs) h4 j;obtain⟨Q,a,b⟩:=h8.one _ p.2 q.2 (d.trans (by rw [hp];rfl)) (f.trans (by rw [i];rfl));exact (jH.rep b).mono (fun g _ q=>⟨hS g (a g q).1,(a g q).2⟩)
theorem clone_any:∀ (n:Nat) (v:V n) {S:Nat→Prop}{w:World}{cs:List Value},Rep n S w cs v→zP n v→Calls prog 53 #[.agg cs.toArray] w fun e w'=>(∃ cs':List Value,e = .returned (.agg cs'.toArray)∧yC n w.heap.size w' cs' v)∧zb [] w w':=fun n v {_}{_}{_} h hs=>(Z9 n v h hs).mono fun _ _ ⟨⟨cs',e,ho⟩,hk⟩=>⟨⟨cs',e,ho.own (fun _ a=>a.1)⟩,hk⟩
end Go.Proofs.YtjccecajigmfkaaGreatDoor

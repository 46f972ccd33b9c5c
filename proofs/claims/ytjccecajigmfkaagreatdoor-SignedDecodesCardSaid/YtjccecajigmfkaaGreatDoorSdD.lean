/- Parts of one proof, merged: XKA XKB XKC. -/
import Derived.Test.YtjccecajigmfkaaGreatDoorSdC
import Derived.Deep.DeepCutAuto
import Derived.Deep.CutBlock
set_option linter.all false
set_option maxHeartbeats 12800000
set_option maxRecDepth 10000
namespace Go.Proofs.YtjccecajigmfkaaGreatDoor
open Go.Proofs.Tryz
open Go.RowKit
variable {α β:Type}{R:α→β→Prop}{a b:Value}{j:Nat}{k m:Int}{s:ByteArray}{w':World}{x:Value}{xs:List α}{ys:List β}
structure yA (w:World)(g:Nat)(k m:Int)(s:ByteArray)(a b:Value):Prop where
 c0:w.cell? ⟨g,0,none⟩=some (.int .i64 k)
 c1:w.cell? ⟨g,1,none⟩=some (.int .i64 m)
 c2:w.cell? ⟨g,2,none⟩=some (.string s)
 c3:w.cell? ⟨g,3,none⟩=some a
 c4:w.cell? ⟨g,4,none⟩=some b
theorem xr (w:World)(k m:Int)(s:ByteArray)(a b:Value)(t:Nat):yA (w.alloc (.cells #[.int .i64 k,.int .i64 m,.string s,a,b] t)) w.heap.size k m s a b:=by
 have d:=heap_alloc_new w (.cells #[.int .i64 k,.int .i64 m,.string s,a,b] t);exact⟨za d rfl,za d rfl,za d rfl,za d rfl,za d rfl⟩
theorem yA.kept {w:World}{g:Nat}(h:yA w g k m s a b){X:List Nat}(e:zb X w w')(d:g ∉ X):yA w' g k m s a b:=
 ⟨e.cell h.c0 d,e.cell h.c1 d,e.cell h.c2 d,e.cell h.c3 d,e.cell h.c4 d⟩
theorem yA.k0 {w:World}{g:Nat}(h:yA w g k m s a b)(d:zb [] w w'):yA w' g k m s a b:=h.kept d Wz
def BB:Nat:=1125899906842624
theorem Kr:qq prog 22 25 5 80 (.agg #[.int .i64 0,.int .i64 0,.string ByteArray.empty,.slice none 0 0,.slice none 0 0]):=⟨underlying22,Wr,Wr,Wo⟩
theorem za1:qq prog 23 41 6 96 (.agg #[.string ByteArray.empty,.int .i64 0,.int .i64 0,.string ByteArray.empty,.slice none 0 0,.slice none 0 0]):=⟨underlying23,Wr,Wr,Wo⟩
theorem Rep.one {n:Nat}{S:Nat→Prop}{w:World}{cs:List Value}{v:V n}(h:Rep n S w cs v):∀ u∈cs,u.oneCell'=true:=by
 match n,v,h with
 | n+1,v,h=>obtain⟨vl,vm,lcs,mcs,h⟩:=h;obtain⟨a,c,b,d,_,_,rfl⟩:=h.forms;intro u e;simp only [XY,Xi,uC] at e;rcases e with rfl | rfl | rfl | rfl | rfl <;> rfl
theorem zL.mem_left (h:zL R xs ys){x:α}(d:x∈xs):∃ y,y∈ys∧R x y:=by
 obtain⟨j,b,rfl⟩:=uI d;have a:j<ys.length:=by rw [← h.1];exact b
 exact⟨ys[j],XX a,h.2 j _ _ (XN b) (XN a)⟩
theorem zL.map_both {γ δ:Type}{Q:γ→δ→Prop}{f:α→γ}{g:β→δ}(h:zL R xs ys)(e:∀ x y,R x y→Q (f x) (g y)):zL Q (xs.map f) (ys.map g):=by
 refine⟨by simp [h.1],?_⟩;intro j x z a b;rw [Xs,ud] at a b;obtain⟨x,a,rfl⟩:=a;obtain⟨y,d,rfl⟩:=b;exact e x y (h.2 j x y a d)
theorem flat_one {R:List Value→Prop}{b:List (List Value)}(h:∀ c,c∈b→∀ u∈c,u.oneCell'=true):∀ u∈b.flatten,u.oneCell'=true:=by
 intro u a;obtain⟨c,hc,a⟩:=List.mem_flatten.1 a;exact h c hc u a
theorem own_new {t size g base:Nat}(W:World)(b:W.heap.size=g)(a:base≤g):(W.alloc (.cells #[] t)).ownsRow base t size (.slice (some ⟨g,0,none⟩) 0 0) 0 []:=by
 subst b;exact World.ownsRow_made W #[] 0 a Wo Wz
def kidsC (lcs:List (List Value))(mcs:List (ByteArray×List Value)):List (List Value):=lcs++mcs.map (fun p=>p.2)
section
variable {n : Nat} {S : Nat → Prop} {w : World} {cs : List Value} {v : VS (V n)} {vl vm : Value} {lcs : List (List Value)} {mcs : List (ByteArray × List Value)}
theorem yj.kids (h:yj (Rep n S w) S w cs v vl vm lcs mcs):zL (Rep n S w) (kidsC lcs mcs) v.kids:=
 h.alll.app (h.allm.map_both fun _ _ r=>r.2)
theorem yj.ones (h:yj (Rep n S w) S w cs v vl vm lcs mcs):∀ u∈lcs.flatten,u.oneCell'=true:=
 flat_one (R:=fun _=>True) fun c hc=>by obtain⟨y,_,a⟩:=h.alll.mem_left hc;exact a.one
end
def Kp (n:Nat)(w:World)(x:Value)(vs:List (V n)):Prop:=∃ lcs,Slc w 5 x vs.length lcs.flatten∧zL (Rep n (fun _=>True) w) lcs vs
theorem Slc.at5 {w:World}{m:Nat}{lcs:List (List Value)}(h:Slc w 5 x m lcs.flatten)(l:∀ c,c∈lcs→c.length=5)(p:j<lcs.length){i:Int}(e:lcs[j]=[.int .i64 k,.int .i64 i,.string s,a,b]) : ∃ g o cap,x = .slice (some ⟨g,o,none⟩) m cap∧w.cell? ⟨g,o+j*5,none⟩=some (.int .i64 k)∧w.cell? ⟨g,o+j*5+1,none⟩=some (.int .i64 i)∧w.cell? ⟨g,o+j*5+2,none⟩=some (.string s)∧w.cell? ⟨g,o+j*5+3,none⟩=some a∧w.cell? ⟨g,o+j*5+4,none⟩=some b:=by
 have r:=YT lcs l;have hm:=h.1;rcases h.2 with ⟨_,q⟩ | ⟨q,_⟩ | ⟨g,o,cap,f,_,_,d⟩
 ·omega
 ·omega
 have hc:∀ i,i<5→lcs.flatten[j*5+i]? = lcs[j][i]?:=fun i n=>jb lcs j i l p n;rw [e] at hc;refine⟨g,o,cap,f,?_,?_,?_,?_,?_⟩;·exact d.cells (j*5+0) _ (hc 0 Wo)
 all_goals rw [uS]
 ·exact d.cells (j*5+1) _ (hc 1 Wo)
 ·exact d.cells (j*5+2) _ (hc 2 Wo)
 ·exact d.cells (j*5+3) _ (hc 3 Wo)
 ·exact d.cells (j*5+4) _ (hc 4 Wo)
theorem Kp.k0 {n:Nat}{w w':World}{x:Value}{a:List (V n)}(h:Kp n w x a)(k:zb [] w w'):Kp n w' x a:=by
 obtain⟨lcs,b,h2⟩:=h;exact⟨lcs,b.k0 k,h2.mono fun _ _ _ r=>r.k0 k⟩
theorem Kp.at {n:Nat}{w:World}{f:List (V n)}(h:Kp n w x f)(m:j<f.length):∃ g o cap k i s a b,x = .slice (some ⟨g,o,none⟩) f.length cap∧w.cell? ⟨g,o+j*5,none⟩=some (.int .i64 k)∧w.cell? ⟨g,o+j*5+1,none⟩=some (.int .i64 i)∧w.cell? ⟨g,o+j*5+2,none⟩=some (.string s)∧w.cell? ⟨g,o+j*5+3,none⟩=some a∧w.cell? ⟨g,o+j*5+4,none⟩=some b∧Rep n (fun _=>True) w [.int .i64 k,.int .i64 i,.string s,a,b] f[j]:=by
 obtain⟨lcs,t,h2⟩:=h;have d:j<lcs.length:=by rw [h2.1];exact m
 have l:=h2.2 j _ _ (XN d) (XN m);obtain⟨k,i,s,a,b,e⟩:=l.five;obtain⟨g,o,cap,q,z,v,p,A,u⟩:=t.at5 (fun c hc=>by obtain⟨y,_,r⟩:=h2.mem_left hc;exact r.len) d e;rw [e] at l;exact⟨g,o,cap,k,i,s,a,b,q,z,v,p,A,u,l⟩
theorem kids_any {n:Nat}{v:VS (V n)}{S:Nat→Prop}{w:World}{cs:List Value}(h:Rep (n+1) S w cs v)(hv:v.l.length+v.m.length≤20000) : Calls prog 72 #[.agg cs.toArray] w fun e w'=>(∃ a c,e = .returned (.slice a v.kids.length c)∧Kp n w' (.slice a v.kids.length c) v.kids)∧zb [] w w':=by
 obtain⟨vl,vm,lcs,mcs,h⟩:=h;obtain⟨a,c,b,e,rfl,rfl,rfl⟩:=h.forms;have H:=qI h;have B:v.kids.length=v.l.length+v.m.length:=by simp [VS.kids]
 have Gb:=qI B;have aa:v.l.length≤20000:=Ws;have ab:v.m.length≤20000:=Ws;have Q:(v.m.length:Int)≤20000:=Ws;have HV:=qI hv;have HB:=qI (xr w v.kind v.num v.s (.slice a v.l.length c) (.slice b v.m.length e) 25);have Ge:=qI (((zb.refl [] w).alloc (.cells #[.int .i64 v.kind,.int .i64 v.num,.string v.s,.slice a v.l.length c,.slice b v.m.length e] 25)));obtain⟨c0,c1,c2,c3,c4⟩:=HB.o;clear h B hv;have Y:=qI ((zb.refl [] (w.alloc (.cells #[.int .i64 v.kind,.int .i64 v.num,.string v.s,.slice a v.l.length c,.slice b v.m.length e] 25))).alloc (.cells #[] 25));have P:Hid ((w.alloc (.cells #[.int .i64 v.kind,.int .i64 v.num,.string v.s,.slice a v.l.length c,.slice b v.m.length e] 25)).heap.size=w.heap.size+1):=qI Wz;have Gf:=qI (own_new (t:=25) (size:=5) (g:=w.heap.size+1) (base:=w.heap.size+1) (w.alloc (.cells #[.int .i64 v.kind,.int .i64 v.num,.string v.s,.slice a v.l.length c,.slice b v.m.length e] 25)) Wz (XA));have E:=qI ((H.o.slcl.k0 Ge.o).k0 Y.o);go_enter func72,ntmps72;go_wp2_with (at_builtin;refine zz Kr Gf.o E.o H.o.ones (by simp only [maxLen];omega) Ws Wz rfl _ _ rfl rfl rfl ?_;intro v' w1 f C _ J);have Gk:=qI f;have Gl:=qI (Y.o.trans C (by intro i F;simp [Value.ownBlock] at F;exact .inr (by simp [F])));clear f C J Gf E c0 c1 c2 c3 c4;go_loopw [3,4] (fun o i wr=>∃ k:Nat,i = .int .i64 k∧k≤v.m.length∧wr.ownsRow (w.heap.size+1) 25 5 o (v.l.length+k) (lcs.flatten++((mcs.take k).map (fun p=>p.2)).flatten)∧zb [] (w.alloc (.cells #[.int .i64 v.kind,.int .i64 v.num,.string v.s,.slice a v.l.length c,.slice b v.m.length e] 25)) wr) (fun _ i _=>v.m.length-(intOf i).toNat);case atStart=>exact⟨0,rfl,XB,by simpa using Gk.o,Gl.o⟩
 case round=>
  obtain⟨k,rfl,hk,u,j⟩:=hrel;have U:=qI u;have L:=qI (Ge.o.trans' j);obtain⟨b0,b1,b2,b3,b4⟩:=HB.o.k0 j;have Z:=qI j;clear u j;by_cases z:k<v.m.length
  ·have R:(k:Int)<v.m.length:=by omega
   obtain⟨g,o,cap,kd,D,st,A,d,O,q0,q1,q2,q3,q4,q5,hr,K⟩:=H.o.at_mx L.o k z;simp only [XU] at O;obtain⟨rfl,-,rfl⟩:=O;have Gu:=qI hr.one;have q:k<mcs.length:=by rw [H.o.lens.2];exact z
   have HX:Hid (mcs[k].2=[.int .i64 kd,.int .i64 D,.string st,A,d]):=qI (by rw [XN q] at K;rw [Option.some.inj K]);have HT:Hid (((mcs.take (k+1)).map (fun p=>p.2)).flatten=((mcs.take k).map (fun p=>p.2)).flatten++[.int .i64 kd,.int .i64 D,.string st,A,d]):=qI (by
    rw [XZ q,Xc,X5,← HX.o];simp)
   have E:=qI (yE wr [.int .i64 kd,.int .i64 D,.string st,A,d] 5 1 25 wr.heap.size rfl rfl Wo);have I:=qI ((zb.refl [] wr).alloc (.cells #[.int .i64 kd,.int .i64 D,.string st,A,d] 25));have N:=qI (zk U.o I.o Wz);have Gn:Hid (w.heap.size+1≤(wr.alloc (.cells #[.int .i64 kd,.int .i64 D,.string st,A,d] 25)).heap.size):=qI (by have G:=Z.o.size;have h2:=P.o;have h3:=I.o.size;omega);clear hr K;go_wp2_with (at_builtin;refine zz Kr N.o E.o Gu.o (by simp only [maxLen];omega) Ws Gn.o rfl _ _ rfl rfl rfl ?_;intro v' w2 x M _ ad);case roundEnd=>
    refine⟨⟨k+1,by go_num,Ws,?_,?_⟩,by simp [intOf];omega⟩;·rw [HT.o,← Xv,← uS];exact x
    ·refine (Z.o.then I.o).trans M ?_;intro i F;exact .inr (by have:=(N.o.lt i (XD F)).1;rw [P.o];exact this)
  ·obtain rfl:k=v.m.length:=by omega
   have X:Hid (Kp n wr u3 v.kids):=qI ⟨kidsC lcs mcs,by
    have e1:mcs.take v.m.length=mcs:=Xl (by rw [H.o.lens.2];exact XA);have G:=U.o;rw [e1] at G;rw [Gb.o,kidsC,X5];exact Slc.of_row G,(H.o.kids.mono fun _ _ _ r=>(r.k0 L.o).mono (fun _ _ _=>trivial))⟩
   obtain⟨W,y,-⟩:=X.o;obtain⟨a',c',e',-,-⟩:=y.form;subst e';clear y;go_wp2;go_ret;exact⟨⟨_,_,rfl,X.o⟩,L.o⟩
theorem maxL_snoc (l:List Nat)(x:Nat):kG (l++[x])=max (kG l) x:=by
 rw [zbF];simp [kG]
theorem xQ (f:α→β)(l:List α)(k:Nat)(h:k<l.length):(l.take (k+1)).map f=(l.take k).map f++[f l[k]]:=by
 rw [XZ h,Xc];rfl
theorem jw:∀ (n:Nat) (v:V n),zM n v≤n
 | 0,v=>nomatch v
 | n+1,(v:VS (V n))=>by
  show 1+kG (v.kids.map (zM n))≤n+1;have:kG (v.kids.map (zM n))≤n:=ZZ.2 (fun x a=>by
   obtain⟨y,_,rfl⟩:=Xm.1 a;exact jw n y)
  omega
theorem zP.few {n:Nat}{v:VS (V n)}(h:zP (n+1) v):v.l.length+v.m.length≤20000:=by
 have:=JD v;have:=h.1;omega
def bj (n : Nat) : Prop := ∀ (v : V n) {S : Nat → Prop} {w : World} {cs : List Value}, Rep n S w cs v → zP n v → n ≤ 100 →
    Calls prog 27 #[.agg cs.toArray] w fun e w'=>e = .returned (.int .i64 (zM n v))∧zb [] w w'
theorem zb8 {n:Nat}(f:bj n):bj (n+1):=fun (v:VS (V n)) {S}{w}{cs} h hs hn=>by
  have X:=qI h;have O:=qI hs;obtain⟨vl,vm,lcs,mcs,h⟩:=h;obtain⟨a,c,b,e,rfl,rfl,rfl⟩:=h.forms;have W:=qI f;have A:Hid (∀ x,x∈v.kids→zM n x≤n):=qI fun x _=>jw n x;have p:Hid (zM (n+1) v=1+kG (v.kids.map (zM n))):=qI rfl;have Z:=qI (xr w v.kind v.num v.s (.slice a v.l.length c) (.slice b v.m.length e) 25);have Q:=qI (((zb.refl [] w).alloc (.cells #[.int .i64 v.kind,.int .i64 v.num,.string v.s,.slice a v.l.length c,.slice b v.m.length e] 25)));have H:Hid (v.kids.length≤20000):=qI (by have:=hs.few;simp only [VS.kids,XM,Xb];omega);obtain⟨c0,c1,c2,c3,c4⟩:=Z.o;clear h hs;have K:=qI (kids_any (X.o.k0 Q.o) O.o.few);go_enter func27,ntmps27;go_wp2_with (go_at_call 72;refine K.o.mono ?_;rintro e w1 ⟨⟨ak,ck,rfl,z⟩,t⟩);have G:=qI z;have Y:=qI (Q.o.then t);clear z t c0 c1 c2 c3 c4 K;have r:=H.o;revert G A p H r;have F:Hid (∀ x,x∈v.kids→zP n x):=qI fun x I=>O.o.kid I;revert F;generalize v.kids=kids;intro F A p H G r;go_loopw [3,5] (fun m i wr=>∃ k:Nat,i = .int .i64 k∧k≤kids.length∧m = .int .i64 (kG ((kids.take k).map (zM n)))∧zb [] w1 wr) (fun _ i _=>kids.length-(intOf i).toNat);case atStart=>exact⟨0,rfl,XB,rfl,Wd⟩
  case round=>
   obtain⟨k,rfl,hk,rfl,u⟩:=hrel;have B:=qI u;clear u;by_cases d:k<kids.length
   ·have P:(k:Int)<kids.length:=by omega
    obtain⟨g,o,cap,kd,nm,st,a1,b1,L,q0,q1,q2,q3,q4,R⟩:=(G.o.k0 B.o).at d;simp only [XU] at L;obtain⟨rfl,-,rfl⟩:=L;have E:=qI (W.o kids[k] R (F.o _ (XX d)) Ws);have hd:=A.o kids[k] (XX d);have C:Hid (kG ((kids.take (k+1)).map (zM n))=max (kG ((kids.take k).map (zM n))) (zM n kids[k])):=qI (by rw [xQ _ _ _ d,maxL_snoc]);clear R;revert E hd C;generalize zM n kids[k]=D;generalize kG ((kids.take k).map (zM n))=M;intro E hd C;by_cases J:M<D
    ·have q:(M:Int)<D:=by omega
     go_wp2_with (go_at_call 27;refine E.o.mono ?_;rintro e w2 ⟨rfl,j⟩);case roundEnd=>refine⟨⟨k+1,by go_num,Ws,?_,B.o.then j⟩,by simp [intOf];omega⟩;rw [C.o,Nat.max_eq_right (Nat.le_of_lt J)]
    ·have q:¬ (M:Int)<D:=by omega
     go_wp2_with (go_at_call 27;refine E.o.mono ?_;rintro e w2 ⟨rfl,j⟩);case roundEnd=>refine⟨⟨k+1,by go_num,Ws,?_,B.o.then j⟩,by simp [intOf];omega⟩;rw [C.o,Nat.max_eq_left Ws]
   ·obtain rfl:k=kids.length:=by omega
    rw [Xw];have N:kG (kids.map (zM n))≤n:=ZZ.2 (fun x I=>by
     obtain⟨y,U,rfl⟩:=Xm.1 I;exact A.o y U)
    revert N p;generalize kG (kids.map (zM n))=M;intro p N;go_wp2;go_ret;rw [p.o];exact⟨by simp;omega,Y.o.then B.o⟩
theorem YO:∀ (n:Nat),bj n
 | 0=>fun v {_}{_}{_} h _ _=>h.elim
 | n+1=>zb8 (YO n)
theorem depth_any:∀ (n:Nat) (v:V n) {S:Nat→Prop}{w:World}{cs:List Value},Rep n S w cs v→zP n v→n≤100→Calls prog 27 #[.agg cs.toArray] w fun e w'=>e = .returned (.int .i64 (zM n v))∧zb [] w w':=fun n=>YO n
def bi (n : Nat) : Prop := ∀ (v : V n) {S : Nat → Prop} {w : World} {cs : List Value}, Rep n S w cs v → zP n v →
    Calls prog 70 #[.agg cs.toArray] w fun e w'=>e = .returned (.int .i64 (zp n v))∧zb [] w w'
theorem zbp {n:Nat}(f:bi n):bi (n+1):=fun (v:VS (V n)) {S}{w}{cs} h hs=>by
  have P:=qI h;have J:=qI hs;obtain⟨vl,vm,lcs,mcs,h⟩:=h;obtain⟨a,c,b,e,rfl,rfl,rfl⟩:=h.forms;have O:=qI f;have A:Hid (zp (n+1) v=1+(v.kids.map (zp n)).sum):=qI rfl;have C:Hid (1+(v.kids.map (zp n)).sum≤20000):=qI hs.1;have U:=qI (xr w v.kind v.num v.s (.slice a v.l.length c) (.slice b v.m.length e) 25);have L:=qI (((zb.refl [] w).alloc (.cells #[.int .i64 v.kind,.int .i64 v.num,.string v.s,.slice a v.l.length c,.slice b v.m.length e] 25)));have B:Hid (v.kids.length≤20000):=qI (by have:=hs.few;simp only [VS.kids,XM,Xb];omega);obtain⟨c0,c1,c2,c3,c4⟩:=U.o;clear h hs;have H:=qI (kids_any (P.o.k0 L.o) J.o.few);go_enter func70,ntmps70;go_wp2_with (go_at_call 72;refine H.o.mono ?_;rintro e w1 ⟨⟨ak,ck,rfl,r⟩,p⟩);have z:=qI r;have R:=qI (L.o.then p);clear r p c0 c1 c2 c3 c4 H;have j:=B.o;revert z C A B j;have y:Hid (∀ x,x∈v.kids→zP n x):=qI fun x Q=>J.o.kid Q;revert y;generalize v.kids=kids;intro y A C B z j;go_loopw [3,5] (fun m i wr=>∃ k:Nat,i = .int .i64 k∧k≤kids.length∧m = .int .i64 (1+((kids.take k).map (zp n)).sum:Nat)∧zb [] w1 wr) (fun _ i _=>kids.length-(intOf i).toNat);case atStart=>exact⟨0,rfl,XB,rfl,Wd⟩
  case round=>
   obtain⟨k,rfl,X,rfl,q⟩:=hrel;have E:=qI q;clear q;by_cases d:k<kids.length
   ·have K:(k:Int)<kids.length:=by omega
    obtain⟨g,o,cap,kd,nm,st,a1,W,I,Y,q1,q2,q3,q4,N⟩:=(z.o.k0 E.o).at d;simp only [XU] at I;obtain⟨rfl,-,rfl⟩:=I;have F:=qI (O.o kids[k] N (y.o _ (XX d)));have u:Hid (1+((kids.take (k+1)).map (zp n)).sum=(1+((kids.take k).map (zp n)).sum)+zp n kids[k]):=qI (by rw [xQ _ _ _ d,List.sum_append];simp;omega);have t:(1+((kids.take k).map (zp n)).sum)+zp n kids[k]≤20000:=by
     rw [← u.o];have Z:(kids.map (zp n)).sum=((kids.take (k+1)).map (zp n)).sum+((kids.drop (k+1)).map (zp n)).sum:=by rw [← List.sum_append,← Xc,uG]
     have:=C.o;omega
    clear N;revert F t u;generalize zp n kids[k]=D;generalize 1+((kids.take k).map (zp n)).sum=M;intro F u t;go_wp2_with (go_at_call 70;refine F.o.mono ?_;rintro e w2 ⟨rfl,G⟩);case roundEnd=>refine⟨⟨k+1,by go_num,Ws,?_,E.o.then G⟩,by simp [intOf];omega⟩;rw [u.o];go_num
   ·obtain rfl:k=kids.length:=by omega
    rw [Xw];go_wp2;go_ret;rw [A.o];exact⟨rfl,R.o.then E.o⟩
theorem YN:∀ (n:Nat),bi n
 | 0=>fun v {_}{_}{_} h _=>h.elim
 | n+1=>zbp (YN n)
theorem count_any:∀ (n:Nat) (v:V n) {S:Nat→Prop}{w:World}{cs:List Value},Rep n S w cs v→zP n v→Calls prog 70 #[.agg cs.toArray] w fun e w'=>e = .returned (.int .i64 (zp n v))∧zb [] w w':=fun n=>YN n
end Go.Proofs.YtjccecajigmfkaaGreatDoor

/- Parts of one proof, merged: XCW XCY XGA XGB XGC XGE XSa XHU. -/
import Derived.Test.YtjccecajigmfkaaGreatDoorSdU
import Derived.Test.YtjccecajigmfkaaGreatDoorSdAA
import Derived.Test.YtjccecajigmfkaaGreatDoorSdZ
set_option linter.all false
set_option maxHeartbeats 12800000
set_option maxRecDepth 10000
namespace Go.Proofs.YtjccecajigmfkaaGreatDoor
open Go.Proofs.Tryz
open Go.RowKit
variable {a:Option Addr}{l:List yg}
theorem qZ {n:Nat}{S:Nat→Prop}{w:World}{cs:List Value}{v:V n}{c:Nat}(h:Env n S w cs v a c l)(P:xS w) : zG w 21 #[.agg (zaQ cs a l.length c).toArray] (.bool (yd n v l)):=by
 obtain⟨kd,u,st,B,A,r,p2,y,z,rfl⟩:=h.rep.conv;obtain⟨t,j⟩:=XE (w.alloc (.cells #[.int .i64 kd,.int .i64 u,.string st,.slice B A r,.slice p2 y z,.slice a l.length c] 28));have k:Hid (zb [] w t):=qI (kA1 j.o);have Q:Hid (t.heap[w.heap.size]? = some (.cells #[.int .i64 kd,.int .i64 u,.string st,.slice B A r,.slice p2 y z,.slice a l.length c] 28 (0,0))):=qI (by rw [j.o];exact zd rfl);have i:=qI (h.k0 k.o);have U:=qI (P.k0 k.o);have s:Hid (xz t 62 #[.agg #[.int .i64 kd,.int .i64 u,.string st,.slice B A r,.slice p2 y z]] (.int .i64 (zV n v))):=qI (fun w2 b=>ZB (i.o.rep.k0 b) i.o.small i.o.deep (U.o.k0 b));have H:Hid (xz t 63 #[.agg #[.int .i64 kd,.int .i64 u,.string st,.slice B A r,.slice p2 y z]] (.int .i64 (zM n v))):=qI (fun w2 b=>valDepth_any (i.o.rep.k0 b) i.o.small i.o.deep (U.o.k0 b));have L:Hid (xz t 64 #[.slice a l.length c,.func (.func 65) #[] #[]] (.bool (!(l.all xo)))):=qI (fun w2 b=>noRows_any (i.o.rows.k0 b) i.o.texts i.o.few);have d:Hid (yd n v l=(decide (kd=6)&&(decide (zV n v=0)&&(decide (zM n v<12)&&(decide (l.length≤16)&&l.all xo))))):=qI (by unfold yd;rw [← i.o.rep.kindE]);have O:zM n v≤100:=X7 (jw n v) h.deep;have N:=h.few;clear h P;generalize yd n v l=M at d;generalize zV n v=K at s d;generalize zM n v=D at H d O;generalize l.all xo=R at L d;generalize l.length=m at j Q L d N ⊢;have ab:(D:Int)≤100:=Ws;have aa:(m:Int)≤1000000:=Ws;obtain⟨c0,c1,c2,c3,c4,c5⟩:=yz Q.o;show Calls _ _ #[.agg #[.int .i64 kd,.int .i64 u,.string st,.slice B A r,.slice p2 y z,.slice a m c]] _ _;by_cases h6:kd=6;rotate_left;·obtain⟨W,Y⟩:=zq h6;rw [XO h6] at d;clear h6;go_enter func21,ntmps21;go_upto_region 1 with fail;refine yZ j.o ?_;go_wp2;go_ret;exact⟨by rw [d.o];rfl,k.o⟩
 rw [XT h6] at d;subst h6;by_cases hc:K=0;rotate_left;·obtain⟨W,Y⟩:=zq hc;rw [XO hc] at d;clear hc;go_enter func21,ntmps21;go_upto_region 1 with fail;refine yZ j.o ?_;go_wp2_with (go_at_call 62;refine (s.o _ Wd).mh ?_;rintro e w1 rfl f);go_ret;exact⟨by rw [d.o];rfl,k.o.then f.o⟩
 rw [XT hc] at d;subst hc;by_cases hd:D<12;rotate_left
 ·have x:(12:Int)≤D:=by omega
  rw [XO hd] at d;clear hd;go_enter func21,ntmps21;go_upto_region 1 with fail;refine yZ j.o ?_;go_upto_region 3 with (go_at_call 62;refine (s.o _ Wd).mono ?_;rintro e w1 ⟨rfl,b⟩;obtain⟨F,G,I,E,J⟩:=VP b c0 c1 c2 c3 c4;have f:=qI b;clear b c0 c1 c2 c3 c4 c5);go_wp2_with (go_at_call 63;refine (H.o _ f.o).mh ?_;rintro e w2 rfl p);go_ret;exact⟨by rw [d.o];rfl,k.o.then (f.o.then p.o)⟩
 have x:(D:Int)<12:=Ws;rw [XT hd] at d;clear hd;by_cases hm:m≤16;rotate_left
 ·have C:(16:Int)<m:=by omega
  rw [XO hm] at d;clear hm;go_enter func21,ntmps21;go_upto_region 1 with fail;refine yZ j.o ?_;go_upto_region 3 with (go_at_call 62;refine (s.o _ Wd).mono ?_;rintro e w1 ⟨rfl,b⟩;obtain⟨F,G,I,E,J,q⟩:=VO b c0 c1 c2 c3 c4 c5;have f:=qI b;clear b c0 c1 c2 c3 c4 c5);go_wp2_with (go_at_call 63;refine (H.o _ f.o).mono ?_;rintro e w2 ⟨rfl,b⟩;have Z:=b.cell q Wz;have p:=qI b;clear b F G I E J q);go_ret;exact⟨by rw [d.o];rfl,k.o.then (f.o.then p.o)⟩
 have C:(m:Int)≤16:=Ws;rw [XT hm] at d;clear hm;go_enter func21,ntmps21;go_upto_region 1 with fail;refine yZ j.o ?_;go_upto_region 3 with (go_at_call 62;refine (s.o _ Wd).mono ?_;rintro e w1 ⟨rfl,b⟩;obtain⟨F,G,I,E,J,q⟩:=VO b c0 c1 c2 c3 c4 c5;have f:=qI b;clear b c0 c1 c2 c3 c4 c5);go_upto_region 5 with (go_at_call 63;refine (H.o _ f.o).mono ?_;rintro e w2 ⟨rfl,b⟩;have Z:=b.cell q Wz;have p:=qI (f.o.then b);clear b F G I E J q);go_wp2_with (go_at_call 64;refine (L.o _ p.o).mh ?_;rintro e w3 rfl X);go_ret;exact⟨by rw [d.o];cases R <;> rfl,k.o.then (p.o.then X.o)⟩
theorem zbx {n:Nat}{S:Nat→Prop}{w:World}{cs:List Value}{v:V n}{c:Nat}(h:Env n S w cs v a c l)(D:xS w) : Calls prog 20 #[.agg (zaQ cs a l.length c).toArray] w fun e w'=>(∃ q d,e = .returned (.slice q (kY n v l).length d)∧zm w' (.slice q (kY n v l).length d) (kY n v l))∧zb [] w w':=by
 obtain⟨kd,i,st,s,r,f,p2,k,p,rfl⟩:=h.rep.conv;obtain⟨x,j⟩:=XE (w.alloc (.cells #[.int .i64 kd,.int .i64 i,.string st,.slice s r f,.slice p2 k p,.slice a l.length c] 28));have y:Hid (zb [] w x):=qI (kA1 j.o);have G:Hid (x.heap[w.heap.size]? = some (.cells #[.int .i64 kd,.int .i64 i,.string st,.slice s r f,.slice p2 k p,.slice a l.length c] 28 (0,0))):=qI (by rw [j.o];exact zd rfl);have A:=qI (h.k0 y.o);have H:=qI (D.k0 y.o);have u:Hid (zG x 21 #[.agg #[.int .i64 kd,.int .i64 i,.string st,.slice s r f,.slice p2 k p,.slice a l.length c]] (.bool (yd n v l))):=qI (by have J:=qZ A.o H.o;exact J);have C:Hid (∀ w2,zb [] x w2→Calls prog 56 #[.agg #[.int .i64 kd,.int .i64 i,.string st,.slice s r f,.slice p2 k p]] w2 fun e w'=>(∃ a c,e = .returned (.tuple #[.slice a (xV n v).1.length c,.int .i64 (xV n v).2])∧zm w' (.slice a (xV n v).1.length c) (xV n v).1)∧zb [] w2 w'):=qI (fun w2 b=>Z0 (A.o.rep.k0 b) A.o.small A.o.deep (H.o.k0 b));have t:Hid (kY n v l=if yd n v l=true then (xV n v).1 else []):=qI (by unfold kY;rfl);clear h D;generalize yd n v l=M at u t;generalize kY n v l=B at t ⊢;generalize (xV n v).1=E at C t;generalize (xV n v).2=Z at C;generalize l.length=m at j G u ⊢;obtain⟨c0,c1,c2,c3,c4,c5⟩:=yz G.o;show Calls _ _ #[.agg #[.int .i64 kd,.int .i64 i,.string st,.slice s r f,.slice p2 k p,.slice a m c]] _ _;cases M with
 | false=>go_enter func20,ntmps20;go_upto_region 1 with fail;refine yZ j.o ?_;go_wp2_with (go_at_call 21;refine u.o.mh ?_;rintro e w1 rfl z);go_ret;rw [t.o];exact⟨⟨_,_,rfl,xt _ _⟩,y.o.then z.o⟩
 | true=>go_enter func20,ntmps20;go_upto_region 1 with fail;refine yZ j.o ?_;go_upto_region 3 with (go_at_call 21;refine u.o.mono ?_;rintro e w1 ⟨rfl,b⟩;obtain⟨N,O,P,L,Q⟩:=VP b c0 c1 c2 c3 c4;have z:=qI b;clear b c0 c1 c2 c3 c4 c5);go_wp2_with (go_at_call 56;refine (C.o _ z.o).mono ?_;rintro e w2 ⟨⟨q,d,rfl,F⟩,b⟩;have K:=qI b;have I:=qI F;clear b F);go_ret;rw [t.o];exact⟨⟨_,_,rfl,I.o⟩,y.o.then (z.o.then K.o)⟩
def GotE (n:Nat)(S:Nat→Prop)(w':World)(e:Ending):Option (V n)→Prop
 | none=>e = .returned (.tuple #[yX,.bool false])
 | some x=>∃ cs,e = .returned (.tuple #[.agg cs.toArray,.bool true])∧Rep n S w' cs x
theorem find_drop {α:Type}{m:List (ByteArray×α)}{s:ByteArray}{k:Nat}(h:k<m.length):(m.drop k).find? (fun p=>decide (p.1=s))=if m[k].1=s then some m[k] else (m.drop (k+1)).find? (fun p=>decide (p.1=s)):=by
 rw [X0 h,List.find?_cons];by_cases e:m[k].1=s <;> simp [e]
section
variable {n : Nat} {v : VS (V n)} {S : Nat → Prop} {w : World} {cs : List Value}
theorem refGet_any (h:Rep (n+1) S w cs v)(hl:v.m.length≤1000000)(s:ByteArray) : Calls prog 134 #[.agg cs.toArray,.string s] w fun e w'=>GotE n S w' e (vJ v s)∧zb [] w w':=by
 obtain⟨vl,vm,lcs,mcs,h⟩:=h;obtain⟨pa,pc,pb,pd,rfl,rfl,rfl⟩:=h.forms;obtain⟨d,R⟩:=XE ((w.alloc (.cells #[.int .i64 v.kind,.int .i64 v.num,.string v.s,.slice pa v.l.length pc,.slice pb v.m.length pd] 25)).alloc (.cells #[.int .i64 0,.int .i64 0,.string ⟨#[]⟩,.slice none 0 0,.slice none 0 0] 25));have E:Hid (zb [] w d):=qI (kA2 R.o);have HB:Hid (d.heap[w.heap.size]? = some (.cells #[.int .i64 v.kind,.int .i64 v.num,.string v.s,.slice pa v.l.length pc,.slice pb v.m.length pd] 25 (0,0))):=qI (by rw [R.o];exact ((zb.refl [] _).alloc _).heap (zd rfl) Wz);have L:Hid (d.heap[w.heap.size+1]? = some (.cells #[.int .i64 0,.int .i64 0,.string ⟨#[]⟩,.slice none 0 0,.slice none 0 0] 25 (0,0))):=qI (by rw [R.o];exact zd Wz);obtain⟨m,X⟩:=XE v.m.length;have c0:=za (o:=0) (v:=.int .i64 v.kind) HB.o rfl;have c4:=za (o:=4) (v:=.slice pb v.m.length pd) HB.o rfl;rw [← X.o] at c4 hl;have H:=qI h;have z:∀ j,d.frozen? ⟨w.heap.size+1,j,none⟩=false:=fun j=>zh L.o
 obtain⟨r0,r1,r2,r3,r4⟩:=yD L.o;obtain⟨kd,Gp⟩:=XE v.kind;rw [← Gp.o] at c0;clear h;have ab:(m:Int)≤1000000:=Ws;clear hl;by_cases F:kd=6;rotate_left
 ·have f1:=(zq F).1;have f2:=(zq F).2;have W:Hid (vJ v s=none):=qI (by unfold vJ;rw [XJ (by rw [← Gp.o];exact F)]);clear F;go_enter func134,ntmps134;go_upto_region 1 with fail;rw [← R.o];go_wp2_with fail;go_loopw [6] (fun i wr=>i = .int .i64 0∧d=wr) (fun _ _=>0);case atStart=>exact⟨rfl,rfl⟩
  case round=>
   obtain⟨rfl,rfl⟩:=hrel;go_wp2_with fail;all_goals
    change bodyPost _ _ _ _ _ (xU d (w.heap.size+1) 0 0 ⟨#[]⟩ (.slice none 0 0) (.slice none 0 0));have x:=E.o.trans (yv d (w.heap.size+1) 0 0 ⟨#[]⟩ (.slice none 0 0) (.slice none 0 0)) (by intro i G;simp at G;subst G;exact .inr Ws);obtain⟨t,B,C,f,u⟩:=yD (xE L.o 0 0 ⟨#[]⟩ (.slice none 0 0) (.slice none 0 0));revert x t B C f u;generalize xU d (w.heap.size+1) 0 0 ⟨#[]⟩ (.slice none 0 0) (.slice none 0 0)=WF;intro x t B C f u;refine bodyPost_ret (v:=.tuple #[yX,.bool false]) (by simp [results,results134,go_sem,t,B,C,f,u,yX]) rfl ?_;rw [W.o];exact⟨rfl,x⟩
 have f1:=(yq F).1;have f2:=(yq F).2;have W:Hid (vJ v s=(v.m.find? (fun p=>decide (p.1=s))).map (fun p=>p.2)):=qI (by unfold vJ;rw [XK (by rw [← Gp.o];exact F)]);clear F;go_enter func134,ntmps134;go_upto_region 1 with fail;rw [← R.o];go_wp2_with fail;go_loopw [6] (fun i wr=>∃ k:Nat,i = .int .i64 k∧k≤m∧Hid ((v.m.drop k).find? (fun p=>decide (p.1=s))=v.m.find? (fun p=>decide (p.1=s)))∧d=wr) (fun i _=>m-(intOf i).toNat);case atStart=>exact⟨0,rfl,XB,qI rfl,rfl⟩
 case round=>
  obtain⟨k,rfl,hk,hf,rfl⟩:=hrel;by_cases I:k<m
  ·have aa:(k:Int)<m:=by omega
   have J:k<v.m.length:=by rw [← X.o];exact I
   obtain⟨g,o,cap,P,Q,st,a,b,K,p0,p1,p2,p3,p4,p5,D⟩:=H.o.at_m Wd k J;obtain⟨Z,q1,q2,q3,q4,q5⟩:=VO E.o p0 p1 p2 p3 p4 p5;rw [← X.o] at K;clear p0 p1 p2 p3 p4 p5;simp only [XU,true_and] at K;obtain⟨rfl,rfl⟩:=K;obtain⟨r,O,A,q,M,y,rfl,rfl⟩:=D.sl;have U:=qI (find_drop (s:=s) J);have Y:=qI D;have Gw:=qI I;revert Z U Y;generalize v.m[k]=kv;intro Z U Y;obtain⟨key,val⟩:=kv;simp only at Z U Y;clear D J I hk;by_cases e:key=s;·obtain⟨g1,g2⟩:=jv e;have N:Hid (v.m.find? (fun p=>decide (p.1=s))=some (key,val)):=qI (by rw [← hf.o,U.o,XK e]);clear e;go_wp2_with fail;change bodyPost _ _ _ _ _ (xU d (w.heap.size+1) P Q st (.slice r O A) (.slice q M y));have x:=yv d (w.heap.size+1) P Q st (.slice r O A) (.slice q M y);obtain⟨t,B,C,f,u⟩:=yD (xE L.o P Q st (.slice r O A) (.slice q M y));revert x t B C f u;generalize xU d (w.heap.size+1) P Q st (.slice r O A) (.slice q M y)=WF;intro x t B C f u;refine bodyPost_ret (v:=.tuple #[.agg #[.int .i64 P,.int .i64 Q,.string st,.slice r O A,.slice q M y],.bool true]) (by simp [results,results134,go_sem,t,B,C,f,u]) rfl ?_;rw [W.o,N.o];have Gx:=E.o.trans x (by intro i G;simp at G;subst G;exact .inr Ws);exact⟨⟨_,rfl,Y.o.k0 Gx⟩,Gx⟩
   ·obtain⟨g1,g2⟩:=k7 e;have N:Hid ((v.m.drop (k+1)).find? (fun p=>decide (p.1=s))=v.m.find? (fun p=>decide (p.1=s))):=qI (by rw [← hf.o,U.o,XJ e]);clear e;go_wp2;case roundEnd=>exact⟨⟨k+1,by go_num,by have:=Gw.o;omega,N,by first | rfl | trivial⟩,by have:=Gw.o;simp [intOf];omega⟩
  ·obtain rfl:k=m:=by omega
   have N:Hid (v.m.find? (fun p=>decide (p.1=s))=none):=qI (by rw [← hf.o,X.o,uV];rfl);go_wp2_with fail;change bodyPost _ _ _ _ _ (xU d (w.heap.size+1) 0 0 ⟨#[]⟩ (.slice none 0 0) (.slice none 0 0));have x:=E.o.trans (yv d (w.heap.size+1) 0 0 ⟨#[]⟩ (.slice none 0 0) (.slice none 0 0)) (by intro i G;simp at G;subst G;exact .inr Ws);obtain⟨t,B,C,f,u⟩:=yD (xE L.o 0 0 ⟨#[]⟩ (.slice none 0 0) (.slice none 0 0));revert x t B C f u;generalize xU d (w.heap.size+1) 0 0 ⟨#[]⟩ (.slice none 0 0) (.slice none 0 0)=WF;intro x t B C f u;refine bodyPost_ret (v:=.tuple #[yX,.bool false]) (by simp [results,results134,go_sem,t,B,C,f,u,yX]) rfl ?_;rw [W.o,N.o];exact⟨rfl,x⟩
end
def QZ {n:Nat}(v:VS (V n))(bad:Bool)(s:ByteArray)(kind:Int):Option (V n)×Bool:=jt v bad s kind (fun _=>true)
theorem Y2 {n:Nat}(v:VS (V n))(bad:Bool)(s:ByteArray)(kind:Int):QZ v bad s kind=(none,true)∨∃ x,QZ v bad s kind=(some x,false):=by
 unfold QZ jt;cases bad with
 | true=>exact .inl rfl
 | false=>
  cases vJ v s with
  | none=>exact .inl rfl
  | some x=>
   by_cases h:qo n x=kind;·exact .inr ⟨x,by simp [h]⟩
   ·exact .inl (by simp [h])
theorem fget_rget {n:Nat}(v:VS (V n))(bad:Bool)(s:ByteArray)(kind:Int)(a:V n→Bool):jt v bad s kind a=match QZ v bad s kind with
  | (none,_)=>(none,true)
  | (some x,_)=>if a x=true then (some x,false) else (none,true):=by
 unfold QZ jt;cases bad with
 | true=>rfl
 | false=>
  cases vJ v s with
  | none=>rfl
  | some x=>
   simp only [uM,if_false];by_cases h:qo n x=kind;·simp [h]
   ·simp [h]
section
variable {n : Nat} {w : World} {g : Nat} {v : VS (V n)} {bad : Bool}
end
theorem ftext_rget {n:Nat}(v:VS (V n))(bad:Bool)(s:ByteArray)(a:Int):jC v bad s a=match QZ v bad s 4 with
  | (none,_)=>(⟨#[]⟩,true)
  | (some x,_)=>if ((bw n x).size:Int)≤a then (bw n x,false) else (⟨#[]⟩,true):=by
 unfold jC;rw [fget_rget];rcases Y2 v bad s 4 with h | ⟨x,h⟩ <;> rw [h]
 simp only [Xa];by_cases q:((bw n x).size:Int)≤a;·rw [XK q,XK q]
 ·rw [XJ q,XJ q]
theorem flist_rget {n:Nat}(v:VS (V n))(bad:Bool)(s:ByteArray)(a:Int):bu v bad s a=match QZ v bad s 5 with
  | (none,_)=>(none,true)
  | (some x,_)=>if (vI n x:Int)≤a then (some x,false) else (none,true):=by
 unfold bu;rw [fget_rget];rcases Y2 v bad s 5 with h | ⟨x,h⟩ <;> rw [h]
 simp only [Xa]
section
variable {n : Nat} {w : World} {g : Nat} {v : VS (V n)} {bad : Bool}
end
section
variable {n : Nat} {w : World} {g : Nat} {v : VS (V (n + 1))} {bad : Bool}
theorem items_rep {n:Nat}{S:Nat→Prop}{w:World}{x:V (n+1)}{k m:Int}{s:ByteArray}{p:Option Addr}{l c:Nat}{b:Value}(h:Rep (n+1) S w [.int .i64 k,.int .i64 m,.string s,.slice p l c,b] x):l=(kN (some x)).length∧∃ lcs,jG S w p c (kN (some x)) lcs:=by
 obtain⟨d,vm,lcs,mcs,h2⟩:=Rep.open_ (v:=(x:VS (V n))) h;have e:=h2.cells;simp only [VG,and_true] at e;obtain⟨-,-,-,rfl,-⟩:=e;obtain⟨i,f,a,-,-⟩:=h2.slcl.form;simp only [XU] at a;obtain⟨rfl,rfl,rfl⟩:=a;exact⟨rfl,lcs,h2.slcl,h2.alll,h2.inl⟩
end
section
variable {n : Nat} {w : World} {g : Nat} {v : VS (V n)} {bad : Bool}
end
theorem refId_any (s:ByteArray)(m:s.size≤140737488355328)(w:World):zG w 29 #[.string s] (.bool (Zx s)):=by
 have f:=KR s m w;have d:Hid (Zx s=match xn s with | none=>false | some l=>decide (l.length=32)):=qI rfl;clear m;rcases hu:xn s with _ | l
 ·rw [hu] at f d;have f:=qI f;clear hu;go_enter func29,ntmps29;go_wp2_with (go_at_call 28;refine f.o.mono ?_;rintro e w1 ⟨k,h⟩;change e=_ at k;subst k;have i:=qI h;clear h);go_ret;exact⟨by rw [d.o];rfl,i.o⟩
 ·rw [hu] at f d;have f:=qI f;have d:Hid (Zx s=decide (l.length=32)):=qI d.o;clear hu;by_cases j:l.length=32;·have n:=(yq (a:=(l.length:Int)) (b:=32) Ws).1;rw [XT j] at d;clear j;go_enter func29,ntmps29;go_wp2_with (go_at_call 28;refine f.o.mono ?_;rintro e w1 ⟨⟨a,c,rfl,-,-⟩,h⟩;have i:=qI h;clear h);go_ret;exact⟨by rw [d.o];rfl,i.o⟩
  ·have n:=(zq (a:=(l.length:Int)) (b:=32) Ws).1;rw [XO j] at d;clear j;go_enter func29,ntmps29;go_wp2_with (go_at_call 28;refine f.o.mono ?_;rintro e w1 ⟨⟨a,c,rfl,-,-⟩,h⟩;have i:=qI h;clear h);go_ret;exact⟨by rw [d.o];rfl,i.o⟩
section
variable {n : Nat} {va vb : V n} {S T : Nat → Prop} {w : World} {ca cb : List Value}
end
def kZ (B n:Nat)(w:World)(g:Nat)(v:VS (V n))(bad:Bool):Prop:=
 ∃ p c q d,w.heap[g]? = some (.cells #[.int .i64 v.kind,.int .i64 v.num,.string v.s,.slice p v.l.length c,.slice q v.m.length d,.bool bad] 73 (0,0)) ∧
  Rep (n+1) (fun k=>B≤k∧k<g) w [.int .i64 v.kind,.int .i64 v.num,.string v.s,.slice p v.l.length c,.slice q v.m.length d] v
theorem kZ.kept {B n:Nat}{X:List Nat}{w b:World}{g:Nat}{v:VS (V n)}{bad:Bool}(h:kZ B n w g v bad)(k:zb X w b)(a:∀ i,i∈X→g<i):kZ B n b g v bad:=by
 obtain⟨p,c,q,d,f,h2⟩:=h;exact⟨p,c,q,d,k.heap f (fun e=>by have:=a g e;omega),h2.kept k (fun i j=>by have:=a i j;omega)⟩
theorem kZ.k0 {B n:Nat}{w a:World}{g:Nat}{v:VS (V n)}{bad:Bool}(h:kZ B n w g v bad)(k:zb [] w a):kZ B n a g v bad:=h.kept k Wz
theorem kZ.lt {B n:Nat}{w:World}{g:Nat}{v:VS (V n)}{bad:Bool}(h:kZ B n w g v bad):g<w.heap.size:=by
 obtain⟨p,c,q,d,a,h2⟩:=h;exact lt_of_block a
theorem kZ.put {B n:Nat}{w:World}{g:Nat}{v:VS (V n)}{bad:Bool}(h:kZ B n w g v bad)(b:Bool):kZ B n (w.setCell ⟨g,5,none⟩ (.bool b)) g v b:=by
 obtain⟨p,c,q,d,a,h2⟩:=h;exact⟨p,c,q,d,ze a rfl,h2.kept ((zb.refl [g] w).setCell (.inl Wz) _) (fun i e=>by simp at e;omega)⟩
theorem kZ.c5 {B n:Nat}{w:World}{g:Nat}{v:VS (V n)}{bad:Bool}(h:kZ B n w g v bad):w.cell? ⟨g,5,none⟩=some (.bool bad)∧w.frozen? ⟨g,5,none⟩=false:=by
 obtain⟨p,c,q,d,a,h2⟩:=h;exact⟨za a rfl,zh a⟩
theorem zba {B n:Nat}{S:Nat→Prop}{w:World}{cs:List Value}{v:VS (V n)}(h:Rep (n+1) S w cs v)(t:∀ k,S k→B≤k):Calls prog 38 #[.agg cs.toArray] w fun e w'=>(∃ g,w.heap.size≤g∧e = .returned (.pointer (some ⟨g,0,none⟩))∧kZ B n w' g v (decide (v.kind≠6)))∧zb [] w w':=by
 obtain⟨z,vm,lcs,mcs,r⟩:=Rep.open_ h;obtain⟨p,c,q,d,rfl,rfl,rfl⟩:=r.forms;have H:=qI h;obtain⟨a,b⟩:=XE (w.alloc (.cells #[.int .i64 v.kind,.int .i64 v.num,.string v.s,.slice p v.l.length c,.slice q v.m.length d] 25));have j:Hid (zb [] w a):=qI (kA1 b.o);have x:Hid (yA a w.heap.size v.kind v.num v.s (.slice p v.l.length c) (.slice q v.m.length d)):=qI (by rw [b.o];exact xr _ _ _ _ _ _ _);have i:Hid (a.heap.size=w.heap.size+1):=qI (by rw [b.o];simp);obtain⟨c0,c1,c2,c3,c4⟩:=x.o;have y:Hid (decide (v.kind≠6)=(v.kind != 6)):=qI (by by_cases k:v.kind=6 <;> simp [k]);clear h r;go_enter func38,ntmps38;go_upto_region 1 with fail;rw [← b.o];go_wp2;go_ret;rw [y.o];have f:=(zb.refl [] a).alloc (.cells #[.int .i64 v.kind,.int .i64 v.num,.string v.s,.slice p v.l.length c,.slice q v.m.length d,.bool (v.kind != 6)] 73);refine⟨⟨a.heap.size,by have:=i.o;omega,rfl,p,c,q,d,zd rfl,Rep.k0 (Rep.k0 (Rep.mono H.o (T:=fun k=>B≤k∧k<a.heap.size) (fun k f u=>⟨t k u,by have:=i.o;omega⟩)) j.o) f⟩,j.o.then f⟩
def JU (B n:Nat)(g:Nat)(w':World)(e:Ending):Option (V n)→Prop
 | none=>e = .returned yX
 | some x=>∃ cs,e = .returned (.agg cs.toArray)∧Rep n (fun k=>B≤k∧k<g) w' cs x
section
variable {B n : Nat} {w : World} {g : Nat} {v : VS (V n)} {bad : Bool}
theorem zag (h:kZ B n w g v bad)(hl:v.m.length≤1000000)(s:ByteArray)(kind:Int) : Calls prog 84 #[.pointer (some ⟨g,0,none⟩),.string s,.int .i64 kind] w fun e w'=>JU B n g w' e (QZ v bad s kind).1∧kZ B n w' g v (QZ v bad s kind).2∧zb [g] w w':=by
 obtain⟨K,W⟩:=XE (w.alloc (.cells #[.int .i64 0,.int .i64 0,.string ⟨#[]⟩,.slice none 0 0,.slice none 0 0] 25));have Gc:Hid (zb [] w K):=qI (kA1 W.o);have U:Hid (K.heap[w.heap.size]? = some (.cells #[.int .i64 0,.int .i64 0,.string ⟨#[]⟩,.slice none 0 0,.slice none 0 0] 25 (0,0))):=qI (by rw [W.o];exact zd rfl);have H:Hid (g<w.heap.size):=qI h.lt;have J:=qI (h.k0 Gc.o);have L:Hid (QZ v bad s kind=if bad then (none,true) else match vJ v s with
  | none=>(none,true)
  | some x=>if qo n x=kind∧true=true then (some x,false) else (none,true)):=qI rfl
 clear h;obtain⟨p,c,q,d,I,h2⟩:=J.o;have Y:=qI (refGet_any h2 hl s);have c0:=za (o:=0) (v:=.int .i64 v.kind) I rfl;have c1:=za (o:=1) (v:=.int .i64 v.num) I rfl;have c2:=za (o:=2) (v:=.string v.s) I rfl;have c3:=za (o:=3) (v:=.slice p v.l.length c) I rfl;have c4:=za (o:=4) (v:=.slice q v.m.length d) I rfl;clear I h2 hl;revert Y L;generalize vJ v s=r;intro L Y;have Gg:Hid (∀ a:World,zb [] K a→∃ A,Hid (A=xU (a.setCell ⟨g,5,none⟩ (.bool true)) w.heap.size 0 0 ⟨#[]⟩ (.slice none 0 0) (.slice none 0 0))∧yA A w.heap.size 0 0 ⟨#[]⟩ (.slice none 0 0) (.slice none 0 0)∧Hid (kZ B n A g v true∧zb [g] w A)):=qI (fun a Z=>by
  have hf:=(J.o.k0 Z).put true;have b:=(zb.refl [g] a).setCell (p:=⟨g,5,none⟩) (.inl Wz) (.bool true);have hr:=b.heap (Z.heap U.o Wz) (by have:=H.o;simp;omega);have O:=yv (a.setCell ⟨g,5,none⟩ (.bool true)) w.heap.size 0 0 ⟨#[]⟩ (.slice none 0 0) (.slice none 0 0);exact⟨_,qI rfl,yD (xE hr _ _ _ _ _),qI ⟨hf.kept O (by intro i f;simp at f;subst f;exact H.o),(((Gc.o.then Z).mono Wz).trans' b).trans O (by intro i f;simp at f;subst f;exact .inr (XA))⟩⟩)
 cases r with
 | none=>
  have P:Hid (QZ v bad s kind=(none,true)):=qI (by rw [L.o];cases bad <;> rfl);cases bad;all_goals
   go_enter func84,ntmps84;go_upto_region 1 with fail;rw [← W.o];go_upto_region 2 with (go_at_call 134;refine Y.o.mono ?_;rintro e w2 ⟨R,b⟩;change e=_ at R;subst R;unfold yX;have Gf:=qI b;clear b c0 c1 c2 c3 c4);obtain⟨a,F⟩:=XE (w2.alloc (.cells #[.int .i64 0,.int .i64 0,.string ⟨#[]⟩,.slice none 0 0,.slice none 0 0] 25));have k:Hid (zb [] K a):=qI (by rw [F.o];exact Gf.o.alloc _);rw [← F.o];obtain⟨c5,f5⟩:=(J.o.k0 k.o).c5;have M:=qI (((zb.refl [g] a).setCell (p:=⟨g,5,none⟩) (.inl Wz) (.bool true)).heap (k.o.heap U.o Wz) (by have:=H.o;simp;omega));obtain⟨r0,r1,r2,r3,r4⟩:=yD M.o;have z:∀ j,(a.setCell ⟨g,5,none⟩ (.bool true)).frozen? ⟨w.heap.size,j,none⟩=false:=fun j=>zh M.o;obtain⟨A,Gn,⟨C,E,G,u,D⟩,Q⟩:=Gg.o a k.o;go_wp2_with fail;change bodyPost _ _ _ _ _ (xU (a.setCell ⟨g,5,none⟩ (.bool true)) w.heap.size 0 0 ⟨#[]⟩ (.slice none 0 0) (.slice none 0 0));rw [← Gn.o];refine bodyPost_ret (v:=yX) (by simp [results,results84,go_sem,C,E,G,u,D,yX]) rfl ?_;rw [P.o];exact⟨rfl,Q.o.1,Q.o.2⟩
 | some x=>
  obtain⟨W2,Jc⟩:∃ W2:World→Prop,W2=fun _=>True:=⟨_,rfl⟩
  clear W2 Jc;go_enter func84,ntmps84;go_upto_region 1 with fail;rw [← W.o];go_upto_region 2 with (go_at_call 134;refine Y.o.mono ?_;rintro e w2 ⟨⟨ab,R,t⟩,b⟩;obtain⟨k3,m3,s3,p3,i3,c3',q3,j3,e3,rfl⟩:=t.conv;subst R;have Gp:Hid (k3=qo n x):=qI t.heads.1;have Jd:=qI t;have Gf:=qI b;clear b t c0 c1 c2 c3 c4);obtain⟨a,F⟩:=XE (w2.alloc (.cells #[.int .i64 k3,.int .i64 m3,.string s3,.slice p3 i3 c3',.slice q3 j3 e3] 25));have k:Hid (zb [] K a):=qI (by rw [F.o];exact Gf.o.alloc _);have Gm:Hid (yA a w2.heap.size k3 m3 s3 (.slice p3 i3 c3') (.slice q3 j3 e3)):=qI (by rw [F.o];exact xr _ _ _ _ _ _ _);have Je:=qI (Jd.o.k0 (show zb [] w2 a by rw [F.o];exact Wd.alloc _));rw [← F.o];obtain⟨b0,b1,b2,b3,b4⟩:=Gm.o;obtain⟨c5,f5⟩:=(J.o.k0 k.o).c5;have M:=qI (((zb.refl [g] a).setCell (p:=⟨g,5,none⟩) (.inl Wz) (.bool true)).heap (k.o.heap U.o Wz) (by have:=H.o;simp;omega));by_cases X:bad=false∧k3=kind
  ·obtain⟨rfl,y⟩:=X;obtain⟨f1,f2⟩:=yq y;have P:Hid (QZ v false s kind=(some x,false)):=qI (by rw [L.o];simp only [uM,if_false];rw [XK ⟨by rw [← Gp.o,y],by first | rfl | trivial⟩]);clear y;have Gv:=qI (k.o.heap U.o Wz);obtain⟨r0,r1,r2,r3,r4⟩:=yD Gv.o;have z:∀ j,a.frozen? ⟨w.heap.size,j,none⟩=false:=fun j=>zh Gv.o
   go_wp2_with fail;change bodyPost _ _ _ _ _ (xU a w.heap.size k3 m3 s3 (.slice p3 i3 c3') (.slice q3 j3 e3));have N:=yv a w.heap.size k3 m3 s3 (.slice p3 i3 c3') (.slice q3 j3 e3);obtain⟨C,E,G,u,D⟩:=yD (xE Gv.o k3 m3 s3 (.slice p3 i3 c3') (.slice q3 j3 e3));revert N C E G u D;generalize xU a w.heap.size k3 m3 s3 (.slice p3 i3 c3') (.slice q3 j3 e3)=A;intro N C E G u D;refine bodyPost_ret (v:=.agg #[.int .i64 k3,.int .i64 m3,.string s3,.slice p3 i3 c3',.slice q3 j3 e3]) (by simp [results,results84,go_sem,C,E,G,u,D]) rfl ?_;rw [P.o];exact⟨⟨_,rfl,Je.o.kept N (by intro i f;have:=H.o;simp at f;omega)⟩,(J.o.k0 k.o).kept N (by intro i f;simp at f;subst f;exact H.o),((Gc.o.then k.o).mono Wz).trans N (by intro i f;simp at f;subst f;exact .inr (XA))⟩
  ·have P:Hid (QZ v bad s kind=(none,true)):=qI (by
    rw [L.o];cases bad with
    | true=>rfl
    | false=>simp only [uM,if_false];rw [XJ (fun h=>X ⟨rfl,by rw [Gp.o];exact h.1⟩)])
   obtain⟨r0,r1,r2,r3,r4⟩:=yD M.o;have z:∀ j,(a.setCell ⟨g,5,none⟩ (.bool true)).frozen? ⟨w.heap.size,j,none⟩=false:=fun j=>zh M.o
   obtain⟨A,Gn,⟨C,E,G,u,D⟩,Q⟩:=Gg.o a k.o;have aa:bad=true∨(bad=false∧((k3 == kind)=false∧(k3 != kind)=true)):=by
    cases bad with
    | true=>exact .inl rfl
    | false=>exact .inr ⟨rfl,by have h9:k3≠kind:=fun e=>X ⟨rfl,e⟩;simp [h9]⟩
   clear X;rcases aa with rfl | ⟨rfl,f1,f2⟩
   all_goals
    go_wp2_with fail;change bodyPost _ _ _ _ _ (xU (a.setCell ⟨g,5,none⟩ (.bool true)) w.heap.size 0 0 ⟨#[]⟩ (.slice none 0 0) (.slice none 0 0));rw [← Gn.o];refine bodyPost_ret (v:=yX) (by simp [results,results84,go_sem,C,E,G,u,D,yX]) rfl ?_;rw [P.o];exact⟨rfl,Q.o.1,Q.o.2⟩
end
section
variable {B n : Nat} {w : World} {g : Nat} {v : VS (V n)} {bad : Bool}
theorem zb7 (h:kZ B n w g v bad)(F:v.m.length≤1000000)(s:ByteArray)(a:Int) : Calls prog 41 #[.pointer (some ⟨g,0,none⟩),.string s,.int .i64 a] w fun e w'=>e = .returned (.string (jC v bad s a).1)∧kZ B n w' g v (jC v bad s a).2∧zb [g] w w':=by
 have p:=qI (zag h F s 4);have f:=qI (ftext_rget v bad s a);clear h F;rcases Y2 v bad s 4 with u | ⟨x,u⟩
 ·rw [u] at p f;simp only at p f;clear u;go_enter func41,ntmps41;go_upto_region 2 with (go_at_call 84;refine p.o.mono ?_;rintro e w2 ⟨q,k,b⟩;change e=_ at q;subst q;unfold yX;have t:=qI k;have r:=qI b;clear k b);obtain⟨i,d⟩:=XE (w2.alloc (.cells #[.int .i64 0,.int .i64 0,.string ⟨#[]⟩,.slice none 0 0,.slice none 0 0] 25));have j:Hid (zb [] w2 i):=qI (kA1 d.o);have l:=qI (t.o.k0 j.o);rw [← d.o];obtain⟨c5,E⟩:=l.o.c5;go_wp2;go_ret;rw [f.o];exact⟨rfl,l.o.put true,(r.o.trans' (j.o.mono Wz)).trans' ((zb.refl [g] i).setCell (.inl Wz) _)⟩
 ·rw [u] at p f;simp only at p f;clear u;obtain⟨z,C⟩:=XE (bw n x);rw [← C.o] at f;by_cases A:(z.size:Int)≤a;all_goals first | rw [XK A] at f | rw [XJ A] at f
  ·have J:=A;go_enter func41,ntmps41;go_upto_region 2 with (go_at_call 84;refine p.o.mono ?_;rintro e w2 ⟨⟨cs,q,y⟩,k,b⟩;obtain⟨s3,p3,c3,q3,j3,d3,rfl,hs3⟩:=y.gone;subst q;rw [← C.o] at hs3;obtain rfl:=hs3;have t:=qI k;have r:=qI b;clear y;clear k b);generalize qo n x=kd;generalize zai n x=nm;generalize vI n x=ln;obtain⟨i,d⟩:=XE (w2.alloc (.cells #[.int .i64 kd,.int .i64 nm,.string s3,.slice p3 ln c3,.slice q3 j3 d3] 25));have j:Hid (zb [] w2 i):=qI (kA1 d.o);have D:Hid (yA i w2.heap.size kd nm s3 (.slice p3 ln c3) (.slice q3 j3 d3)):=qI (by rw [d.o];exact xr _ _ _ _ _ _ _);have l:=qI (t.o.k0 j.o);rw [← d.o];obtain⟨c5,E⟩:=l.o.c5;obtain⟨H,G,b2,b3,I⟩:=D.o;go_wp2;go_ret;rw [f.o];exact⟨rfl,l.o,r.o.trans' (j.o.mono Wz)⟩
  ·have J:a<(z.size:Int):=by omega
   clear A;skip;all_goals
    go_enter func41,ntmps41;go_upto_region 2 with (go_at_call 84;refine p.o.mono ?_;rintro e w2 ⟨⟨cs,q,y⟩,k,b⟩;obtain⟨s3,p3,c3,q3,j3,d3,rfl,hs3⟩:=y.gone;subst q;rw [← C.o] at hs3;obtain rfl:=hs3;have t:=qI k;have r:=qI b;clear y;clear k b);generalize qo n x=kd;generalize zai n x=nm;generalize vI n x=ln;obtain⟨i,d⟩:=XE (w2.alloc (.cells #[.int .i64 kd,.int .i64 nm,.string s3,.slice p3 ln c3,.slice q3 j3 d3] 25));have j:Hid (zb [] w2 i):=qI (kA1 d.o);have D:Hid (yA i w2.heap.size kd nm s3 (.slice p3 ln c3) (.slice q3 j3 d3)):=qI (by rw [d.o];exact xr _ _ _ _ _ _ _);have l:=qI (t.o.k0 j.o);rw [← d.o];obtain⟨c5,E⟩:=l.o.c5;obtain⟨H,G,b2,b3,I⟩:=D.o;go_wp2;go_ret;rw [f.o];exact⟨rfl,l.o.put true,(r.o.trans' (j.o.mono Wz)).trans' ((zb.refl [g] i).setCell (.inl Wz) _)⟩
end
section
variable {B n : Nat} {w : World} {g : Nat} {v : VS (V (n + 1))} {bad : Bool}
theorem rlistL_any (h:kZ B (n+1) w g v bad)(J:v.m.length≤1000000)(s:ByteArray)(b:Int) : Calls prog 40 #[.pointer (some ⟨g,0,none⟩),.string s,.int .i64 b] w fun e w'=>(∃ a c lcs,e = .returned (.slice a (kN (bu v bad s b).1).length c)∧jG (fun k=>B≤k∧k<g) w' a c (kN (bu v bad s b).1) lcs)∧kZ B (n+1) w' g v (bu v bad s b).2∧zb [g] w w':=by
 have r:=qI (zag h J s 5);have i:=qI (flist_rget v bad s b);clear h J;rcases Y2 v bad s 5 with D | ⟨x,D⟩
 ·rw [D] at r i;simp only at r i;clear D;go_enter func40,ntmps40;go_upto_region 2 with (go_at_call 84;refine r.o.mono ?_;rintro e w2 ⟨u,p,d⟩;change e=_ at u;subst u;unfold yX;have C:=qI p;have y:=qI d;clear p d);obtain⟨l,f⟩:=XE (w2.alloc (.cells #[.int .i64 0,.int .i64 0,.string ⟨#[]⟩,.slice none 0 0,.slice none 0 0] 25));have j:Hid (zb [] w2 l):=qI (kA1 f.o);have q:=qI (C.o.k0 j.o);rw [← f.o];obtain⟨c5,H⟩:=q.o.c5;go_wp2;go_ret;rw [i.o];exact⟨⟨none,0,[],rfl,xt _ _,zL.nil _,by simp [kN,yt]⟩,q.o.put true,(y.o.trans' (j.o.mono Wz)).trans' ((zb.refl [g] l).setCell (.inl Wz) _)⟩
 ·rw [D] at r i;simp only at r i;clear D;obtain⟨z,A⟩:=XE (vI (n+1) x);rw [← A.o] at i;by_cases E:(z:Int)≤b;all_goals first | rw [XK E] at i | rw [XJ E] at i
  ·have N:=E;go_enter func40,ntmps40;go_upto_region 2 with (go_at_call 84;refine r.o.mono ?_;rintro e w2 ⟨⟨cs,u,t⟩,p,d⟩;obtain⟨s3,p3,c3,q3,j3,d3,rfl,hs3⟩:=t.gone;subst u;obtain⟨hln,lcs,hit⟩:=items_rep t;have I:Hid (z=(kN (some x)).length):=qI (by rw [A.o];exact hln);rw [← A.o];have G:=qI hit;have C:=qI p;have y:=qI d;clear t hs3 hln hit;clear p d);generalize qo (n+1) x=kd;generalize zai (n+1) x=nm;obtain⟨l,f⟩:=XE (w2.alloc (.cells #[.int .i64 kd,.int .i64 nm,.string s3,.slice p3 z c3,.slice q3 j3 d3] 25));have j:Hid (zb [] w2 l):=qI (kA1 f.o);have F:Hid (yA l w2.heap.size kd nm s3 (.slice p3 z c3) (.slice q3 j3 d3)):=qI (by rw [f.o];exact xr _ _ _ _ _ _ _);have q:=qI (C.o.k0 j.o);rw [← f.o];obtain⟨c5,H⟩:=q.o.c5;obtain⟨L,K,b2,b3,M⟩:=F.o;go_wp2;go_ret;rw [i.o];exact⟨⟨p3,c3,lcs,by rw [I.o];rfl,(G.o.kept j.o Wz)⟩,q.o,y.o.trans' (j.o.mono Wz)⟩
  ·have N:b<(z:Int):=by omega
   clear E;skip;all_goals
    go_enter func40,ntmps40;go_upto_region 2 with (go_at_call 84;refine r.o.mono ?_;rintro e w2 ⟨⟨cs,u,t⟩,p,d⟩;obtain⟨s3,p3,c3,q3,j3,d3,rfl,hs3⟩:=t.gone;subst u;obtain⟨hln,lcs,hit⟩:=items_rep t;have I:Hid (z=(kN (some x)).length):=qI (by rw [A.o];exact hln);rw [← A.o];have G:=qI hit;have C:=qI p;have y:=qI d;clear t hs3 hln hit;clear p d);generalize qo (n+1) x=kd;generalize zai (n+1) x=nm;obtain⟨l,f⟩:=XE (w2.alloc (.cells #[.int .i64 kd,.int .i64 nm,.string s3,.slice p3 z c3,.slice q3 j3 d3] 25));have j:Hid (zb [] w2 l):=qI (kA1 f.o);have F:Hid (yA l w2.heap.size kd nm s3 (.slice p3 z c3) (.slice q3 j3 d3)):=qI (by rw [f.o];exact xr _ _ _ _ _ _ _);have q:=qI (C.o.k0 j.o);rw [← f.o];obtain⟨c5,H⟩:=q.o.c5;obtain⟨L,K,b2,b3,M⟩:=F.o;go_wp2;go_ret;rw [i.o];exact⟨⟨none,0,[],rfl,xt _ _,zL.nil _,by simp [kN,yt]⟩,q.o.put true,(y.o.trans' (j.o.mono Wz)).trans' ((zb.refl [g] l).setCell (.inl Wz) _)⟩
end
section
variable {B n : Nat} {w : World} {g : Nat} {v : VS (V n)} {bad : Bool}
theorem rmapL_any (h:kZ B n w g v bad)(E:v.m.length≤1000000)(s:ByteArray) : Calls prog 39 #[.pointer (some ⟨g,0,none⟩),.string s] w fun e w'=>JU B n g w' e (zbr v bad s).1∧kZ B n w' g v (zbr v bad s).2∧zb [g] w w':=by
 obtain⟨A,y⟩:=XE (w.alloc (.cells #[.int .i64 0,.int .i64 0,.string ⟨#[]⟩,.slice none 0 0,.slice none 0 0] 25));have G:Hid (zb [] w A):=qI (kA1 y.o);have I:Hid (A.heap[w.heap.size]? = some (.cells #[.int .i64 0,.int .i64 0,.string ⟨#[]⟩,.slice none 0 0,.slice none 0 0] 25 (0,0))):=qI (by rw [y.o];exact zd rfl);have C:Hid (g<w.heap.size):=qI h.lt;have t:=qI (zag (h.k0 G.o) E s 6);have H:Hid (zbr v bad s=QZ v bad s 6):=qI rfl;rw [H.o];clear h E H;have r:Hid (∀ (w2:World) (k m:Int) (st:ByteArray) (a b:Value),zb [g] A w2→kZ B n w2 g v (QZ v bad s 6).2→∃ WF,Hid (WF=xU w2 w.heap.size k m st a b)∧yA w2 w.heap.size 0 0 ⟨#[]⟩ (.slice none 0 0) (.slice none 0 0)∧(∀ j,w2.frozen? ⟨w.heap.size,j,none⟩=false)∧yA WF w.heap.size k m st a b∧Hid (kZ B n WF g v (QZ v bad s 6).2∧zb [g] w WF∧zb [w.heap.size] w2 WF)):=qI (fun w2 k m st a b F p=>by
  have f:=F.heap I.o (by have:=C.o;simp;omega);have q:=yv w2 w.heap.size k m st a b;exact⟨_,qI rfl,yD f,fun j=>zh f,yD (xE f _ _ _ _ _),qI ⟨p.kept q (by intro i l;simp at l;subst l;exact C.o),((G.o.mono Wz).trans' F).trans q (by intro i l;simp at l;subst l;exact .inr (XA)),q⟩⟩)
 rcases Y2 v bad s 6 with f | ⟨x,f⟩;·rw [f] at t r ⊢;simp only at t r ⊢;clear f;go_enter func39,ntmps39;go_upto_region 1 with fail;rw [← y.o];go_wp2_with (go_at_call 84;refine t.o.mono ?_;rintro e w2 ⟨u,p,d⟩;change e=_ at u;subst u;unfold yX;obtain⟨WF,Gn,⟨r0,r1,r2,r3,r4⟩,z,⟨y0,y1,y2,y3,y4⟩,Gk⟩:=r.o w2 0 0 ⟨#[]⟩ (.slice none 0 0) (.slice none 0 0) d p;clear p d);change bodyPost _ _ _ _ _ (xU w2 w.heap.size 0 0 ⟨#[]⟩ (.slice none 0 0) (.slice none 0 0));rw [← Gn.o];refine bodyPost_ret (v:=yX) (by simp [results,results39,go_sem,y0,y1,y2,y3,y4,yX]) rfl ?_;exact⟨rfl,Gk.o.1,Gk.o.2.1⟩
 ·rw [f] at t r ⊢;simp only at t r ⊢;clear f;go_enter func39,ntmps39;go_upto_region 1 with fail;rw [← y.o];go_wp2_with (go_at_call 84;refine t.o.mono ?_;rintro e w2 ⟨⟨cs,u,D⟩,p,d⟩;obtain⟨k3,m3,s3,p3,i3,c3,q3,j3,e3,rfl⟩:=D.conv;subst u;have J:=qI D;obtain⟨WF,Gn,⟨r0,r1,r2,r3,r4⟩,z,⟨y0,y1,y2,y3,y4⟩,Gk⟩:=r.o w2 k3 m3 s3 (.slice p3 i3 c3) (.slice q3 j3 e3) d p;clear p d D);change bodyPost _ _ _ _ _ (xU w2 w.heap.size k3 m3 s3 (.slice p3 i3 c3) (.slice q3 j3 e3));rw [← Gn.o];refine bodyPost_ret (v:=.agg #[.int .i64 k3,.int .i64 m3,.string s3,.slice p3 i3 c3,.slice q3 j3 e3]) (by simp [results,results39,go_sem,y0,y1,y2,y3,y4]) rfl ?_;exact⟨⟨_,rfl,J.o.kept Gk.o.2.2 (by intro i l;have:=C.o;simp at l;omega)⟩,Gk.o.1,Gk.o.2.1⟩
end
end Go.Proofs.YtjccecajigmfkaaGreatDoor

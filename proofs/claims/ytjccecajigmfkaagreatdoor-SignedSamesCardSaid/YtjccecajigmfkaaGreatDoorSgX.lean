/- Parts of one proof, merged: XCI XCJ. -/
import Derived.Test.YtjccecajigmfkaaGreatDoorSgT
set_option linter.all false
set_option maxHeartbeats 12800000
set_option maxRecDepth 10000
namespace Go.Proofs.YtjccecajigmfkaaGreatDoor
open Go.Proofs.Tryz
open Go.RowKit
variable {a am:Option Addr}{m:List UInt8}{n:Nat}{w:World}
theorem lamSign_any {c:Nat}{seed:List UInt8}(hb:zp w (.slice a seed.length c) seed)(hs:seed.length≤64)(leaf:Nat)(hl:leaf≤1000){cm:Nat}(Q:zp w (.slice am m.length cm) m)(hm:m.length≤1048576)(F:qK w) : Calls prog 140 #[.slice a seed.length c,.int .i64 leaf,.int .i64 8,.slice am m.length cm] w fun e w'=>(∃ a1 c1 a2 c2,e = .returned (.tuple #[.agg #[.slice a1 8 c1,.slice a2 8 c2],.int .i64 0])∧Slc w' 32 (.slice a1 8 c1) 8 ((vz seed leaf 8 m).rev.flatten.map bv)∧Slc w' 32 (.slice a2 8 c2) 8 ((vz seed leaf 8 m).oth.flatten.map bv))∧zb [] w w':=by
 obtain⟨t,Gd⟩:=XE (w.alloc (.cells #[.slice none 0 0,.slice none 0 0] 85));have J:Hid (zb [] w t):=qI (kA1 Gd.o);have Gx:Hid (t.heap[w.heap.size]? = some (.cells #[.slice none 0 0,.slice none 0 0] 85 (0,0))):=qI (by rw [Gd.o];exact ze rfl);have CM:Hid (Calls prog 85 #[.int .i64 8] t fun e w'=>e = .returned (.bool true)∧t=w'):=qI (vR 8 Wo Wo t);have CK:=qI (zbs (w:=t) (a:=a) (c:=c) hs leaf Ws);have CO:=qI (lamOf_any (Q.k0 J.o) hm (F.k0 J.o));have HS:=qI hs;have HB:=qI (hb.k0 J.o);have Gp:=qI (F.k0 J.o);have Mc:=qI hl;have ab:(m.length:Int)≤1048576:=Ws;have CS:Hid (∀ (f:World) (b r:Nat),zb [] t f→b<8→r<2→Calls prog 89 #[.slice a seed.length c,.int .i64 leaf,.int .i64 b,.int .i64 r] f fun e w'=>e = .returned (.agg ((kr seed leaf b r).map bv).toArray)∧zb [] f w'):=qI (fun f b r hk h1 h2=>zbv (HB.o.k0 hk) HS.o leaf b r (XC Mc.o) Ws Ws (Gp.o.k0 hk));have M:Hid (∀ (f:World) (b:Nat),b<8→Calls prog 163 #[.agg ((vA m).map bv).toArray,.int .i64 b] f fun e w'=>e = .returned (.int .i64 (xy (vA m) b))∧zb [] f w'):=qI (fun f b h=>J3 f (vA m) (zaR m) b Ws);have Gq:Hid (∀ k,((List.range (k+1)).map (revL seed leaf m))=(List.range k).map (revL seed leaf m)++[kr seed leaf k (xy (vA m) k)]):=qI (fun k=>by rw [List.range_succ,List.map_append];rfl);have Gr:Hid (∀ k,((List.range (k+1)).map (othL seed leaf m))=(List.range k).map (othL seed leaf m)++[qe (kr seed leaf k (1-xy (vA m) k))]):=qI (fun k=>by rw [List.range_succ,List.map_append];rfl);have Ge:Hid (∀ k,xy (vA m) k<2):=qI (fun k=>JB _ _);have Js:Hid ((vz seed leaf 8 m).rev=(List.range 8).map (revL seed leaf m)∧(vz seed leaf 8 m).oth=(List.range 8).map (othL seed leaf m)):=qI ⟨rfl,rfl⟩;clear hb hs hl Q hm F;generalize aj:seed.length=sn at CK CS;generalize ak:m.length=mn at CO ab;generalize vA m=md at CO M Gq Gr Ge;go_enter func140,ntmps140;go_upto_region 1 with fail;rw [← Gd.o];go_wp2_with first
  | (go_at_call 85;refine CM.o.mono ?_;rintro e w' ⟨rfl,rfl⟩)
  | (go_at_call 86;refine CK.o.mono ?_;rintro e w' ⟨rfl,rfl⟩)
  | (go_at_call 162;refine CO.o.mh ?_;rintro e w2 rfl K)
 obtain⟨W3,Jt⟩:=XE (w2.alloc (.cells #[.slice none 0 0,.slice none 0 0] 85));have Ju:Hid (jJ w2 w2.heap.size W3 none 0 none 0 [] []):=qI (by rw [Jt.o];exact out_new w2);rw [← Jt.o];generalize W:w2.heap.size=gb at Ju;have Mm:=qI W;clear W;go_loopw [12,33] (fun _ i wr=>∃ (k:Nat) (a1 a2:Option Addr) (c1 c2:Nat),i = .int .i64 k∧k≤8∧jJ w2 gb wr a1 c1 a2 c2 ((List.range k).map (revL seed leaf m)) ((List.range k).map (othL seed leaf m))) (fun _ i _=>8-(intOf i).toNat);case atStart=>exact⟨0,none,none,0,0,rfl,XB,Ju.o⟩
 case round=>
  obtain⟨k,a1,a2,c1,c2,rfl,hk,s⟩:=hrel;have E:=qI s;have q:Hid (((List.range k).map (revL seed leaf m)).length=k):=qI Wz;have p:Hid (((List.range k).map (othL seed leaf m)).length=k):=qI Wz;rcases Nat.lt_or_ge k 8 with h8 | h8
  ·have ag:(k:Int)<8:=by omega
   have Gh:Hid (zb [] t wr):=qI (K.o.then s.kept);have Jf:=qI (Gq.o k);have Jg:=qI (Gr.o k);have CD:Hid (∀ f,Calls prog 163 #[.agg (md.map bv).toArray,.int .i64 k] f fun e w'=>e = .returned (.int .i64 (xy md k))∧zb [] f w'):=qI (fun f=>M.o f k h8);have Gy:=qI (Ge.o k);have H:Hid (yL wr 89 #[.slice a sn c,.int .i64 leaf,.int .i64 k,.int .i64 (xy md k)] (.agg ((kr seed leaf k (xy md k)).map bv).toArray)):=qI (fun f A=>CS.o f k _ (Gh.o.then A) h8 Gy.o);have B:Hid (yL t 89 #[.slice a sn c,.int .i64 leaf,.int .i64 k,.int .i64 (1-(xy md k:Int))] (.agg ((kr seed leaf k (1-xy md k)).map bv).toArray)):=qI (fun f A=>by
    have h1:=CS.o f k (1-xy md k) A h8 Ws;have h2:((1-xy md k:Nat):Int)=1-(xy md k:Int):=XC Gy.o;rw [h2] at h1;exact h1)
   have Gg:Hid ((kr seed leaf k (xy md k)).length=32):=qI (vV _ _ _ _);have Md:Hid ((kr seed leaf k (1-xy md k)).length=32):=qI (vV _ _ _ _);have Jh:Hid ((qe (kr seed leaf k (1-xy md k))).length=32):=qI (yK _);have G:Hid (yL t 88 #[.agg ((kr seed leaf k (1-xy md k)).map bv).toArray] (.agg ((qe (kr seed leaf k (1-xy md k))).map bv).toArray)):=qI (fun f A=>ZC f _ (vV _ _ _ _) (Gp.o.k0 A));generalize qe (kr seed leaf k (1-xy md k))=x3 at G Jh Jg;generalize kr seed leaf k (1-xy md k)=x2 at B G Md;generalize kr seed leaf k (xy md k)=x1 at H Gg Jf;generalize xy md k=sd at CD Gy H B;generalize (List.range k).map (revL seed leaf m)=rv at E q Jf;generalize (List.range k).map (othL seed leaf m)=ot at E p Jg;have f0:=za (o:=0) E.o.box rfl;rw [q.o] at f0;clear s;go_upto_region 10 with fail
   refine yz (n:=64) 10 [fI (.pointer (some ⟨gb,0,none⟩)),
    fI (.slice a1 k c1),
    fI (.slice a sn c),
    fI (.int .i64 leaf),
    fI (.int .i64 k),
    fI (.func (.func 163) #[.agg (md.map bv).toArray] #[]),
    fI (.int .i64 k),
    fI (.int .i64 sd),
    fI (.agg (x1.map bv).toArray),
    kP (x1.map bv) 1 32] Wr rfl Wr (fun x=>qm) ?_ ?_
   ·refine⟨?_,?_,?_,?_,?_,?_,?_,?_,?_,?_,trivial⟩ <;> intro x w2 d b hd;·exact zi
    ·have d0:x 0=_:=hd 0 Wr;have O:=d.cell f0 Wz;exact zi
    ·exact zi
    ·exact zi
    ·exact zi
    ·exact zi
    ·exact zi
    ·have d5:x 5=_:=hd 5 Wr;have d6:x 6=_:=hd 6 Wr;have D:=CD.o w2;go_wp2_with (go_at_call 163;refine D.mh ?_;rintro e w5 rfl C);exact⟨rfl,C.o⟩
    ·have d2:x 2=_:=hd 2 Wr;have d3:x 3=_:=hd 3 Wr;have d4:x 4=_:=hd 4 Wr;have d7:x 7=_:=hd 7 Wr;have D:=H.o w2 d;go_wp2_with (go_at_call 89;refine D.mh ?_;rintro e w5 rfl C);exact⟨rfl,C.o⟩
    ·have d8:x 8=_:=hd 8 Wr;change wpList _ _ _ [_] _ _;refine qL underlying78 kG JW Wo Wo Wk _ rfl (cs:=x1.map bv) (by simp [Gg.o]) d8 ?_;exact⟨rfl,_,rfl,⟨w2.heap.size,rfl,XA,Wz,yv w2 (x1.map bv) 32 1 _ _ rfl (by simp [Gg.o]) Wo⟩,Wd.alloc _⟩
   ·intro x w7 d b7 hd y;have d1:x 1=_:=hd 1 Wo;obtain⟨g9,d9,-,-,u⟩:=hd 9 Wo;have Gk:=qI u;have Ji:=qI (E.o.k0 d);have Me:=qI d;clear hd y d u;change wpList _ _ _ [_,_,_] _ _;go_wp2_with (at_builtin;refine zG ty32 (v:=.slice a1 k c1) (n:=k) (xs:=rv.flatten.map bv) (by have N:=Ji.o.rev;rw [q.o] at N;exact N) Gk.o (qE _) (by simp only [maxLen];omega) Ws Ji.o.kept.size rfl _ _ rfl d1 d9 ?_;intro v5 w8 l I _ P;obtain⟨a5,c5,rfl,-,-⟩:=(Slc.of_row l).form;obtain⟨u0,uf,ho8⟩:=Ji.o.push0 (x:=x1) (a5:=a5) (c5:=c5) (by rw [q.o];exact l) (by rw [q.o];exact I) (by rw [q.o];exact P);rw [q.o] at u0 ho8;rw [← Jf.o] at ho8;have Z:=qI ho8;clear l I P ho8);generalize w8.setCell ⟨gb,0,none⟩ (.slice a5 (k+1) c5)=w9 at Z;have Jv:Hid (zb [] t w9):=qI (K.o.then Z.o.kept);have aa:Hid (∀ f,zb [] t f→_):=B;have CU:Hid (∀ f,zb [] t f→_):=G;have X:=za (o:=1) Z.o.box rfl;rw [p.o] at X;clear u0 uf;go_upto_region 11 with fail
    refine yz (n:=64) 12 [fI (.pointer (some ⟨gb,1,none⟩)),
     fI (.slice a2 k c2),
     fI (.slice a sn c),
     fI (.int .i64 leaf),
     fI (.int .i64 k),
     fI (.func (.func 163) #[.agg (md.map bv).toArray] #[]),
     fI (.int .i64 k),
     fI (.int .i64 sd),
     fI (.int .i64 (1-(sd:Int))),
     fI (.agg (x2.map bv).toArray),
     fI (.agg (x3.map bv).toArray),
     kP (x3.map bv) 1 32] Wr rfl Wr (fun x=>qm) ?_ ?_
    ·refine⟨?_,?_,?_,?_,?_,?_,?_,?_,?_,?_,?_,?_,trivial⟩ <;> intro x w2 d b hd;·exact zi
     ·have d0:x 0=_:=hd 0 Wr;have O:=d.cell X Wz;exact zi
     ·exact zi
     ·exact zi
     ·exact zi
     ·exact zi
     ·exact zi
     ·have d5:x 5=_:=hd 5 Wr;have d6:x 6=_:=hd 6 Wr;have D:=CD.o w2;go_wp2_with (go_at_call 163;refine D.mh ?_;rintro e w5 rfl C);exact⟨rfl,C.o⟩
     ·have d7:x 7=_:=hd 7 Wr;have h2:=Gy.o;have hw:wrap64 (1-(sd:Int))=1-(sd:Int):=by unfold wrap64;omega
      exact zi
     ·have d2:x 2=_:=hd 2 Wr;have d3:x 3=_:=hd 3 Wr;have d4:x 4=_:=hd 4 Wr;have d8:x 8=_:=hd 8 Wr;have D:=aa.o w2 (Jv.o.then d);go_wp2_with (go_at_call 89;refine D.mh ?_;rintro e w5 rfl C);exact⟨rfl,C.o⟩
     ·have d9:x 9=_:=hd 9 Wr;have D:=CU.o w2 (Jv.o.then d);go_wp2_with (go_at_call 88;refine D.mh ?_;rintro e w5 rfl C);exact⟨rfl,C.o⟩
     ·have ae:x 10=_:=hd 10 Wr;change wpList _ _ _ [_] _ _;refine qL underlying78 kG JW Wo Wo Wk _ rfl (cs:=x3.map bv) (by simp [Jh.o]) ae ?_;exact⟨rfl,_,rfl,⟨w2.heap.size,rfl,XA,Wz,yv w2 (x3.map bv) 32 1 _ _ rfl (by simp [Jh.o]) Wo⟩,Wd.alloc _⟩
    ·intro x al d ah hd y;have d1:x 1=_:=hd 1 Wo;obtain⟨g9,ad,-,-,u⟩:=hd 11 Wo;have Gk:=qI u;have Jj:=qI (Z.o.k0 d);clear hd y d u;change wpList _ _ _ [_,_,_] _ _;go_wp2_with (at_builtin;refine zG ty32 (v:=.slice a2 k c2) (n:=k) (xs:=ot.flatten.map bv) (by have N:=Jj.o.oth;rw [p.o] at N;exact N) Gk.o (qE _) (by simp only [maxLen];omega) Ws Jj.o.kept.size rfl _ _ rfl d1 ad ?_;intro v6 ai l L _ R;obtain⟨a6,c6,rfl,-,-⟩:=(Slc.of_row l).form;obtain⟨u0,uf,ho13⟩:=Jj.o.push1 (x:=x3) (a5:=a6) (c5:=c6) (by rw [p.o];exact l) (by rw [p.o];exact L) (by rw [p.o];exact R);rw [p.o] at u0 ho13;rw [← Jg.o] at ho13;have Jk:=qI ho13;clear l L R ho13);case roundEnd=>exact⟨⟨k+1,a5,a6,c5,c6,by go_num,Ws,Jk.o⟩,by simp [intOf];omega⟩
  ·obtain rfl:k=8:=by omega
   have f0:=za (o:=0) s.box rfl;have X:=za (o:=1) s.box rfl;rw [q.o] at f0;rw [p.o] at X;have Y:=qI (s.kept.heap (K.o.heap Gx.o Wz) Wz);have r0:=za (o:=0) Y.o rfl;have r1:=za (o:=1) Y.o rfl;have z:∀ j,wr.frozen? ⟨w.heap.size,j,none⟩=false:=fun j=>zh Y.o;clear s;go_wp2_with fail;change bodyPost _ _ _ _ _ (put2 wr w.heap.size (.slice a1 8 c1) (.slice a2 8 c2));have U:=Zr wr w.heap.size (.slice a1 8 c1) (.slice a2 8 c2);have Jl:=put2_at Y.o (.slice a1 8 c1) (.slice a2 8 c2);have O:=za (o:=0) Jl rfl;have y1:=za (o:=1) Jl rfl;revert U O y1;clear Jl;generalize put2 wr w.heap.size (.slice a1 8 c1) (.slice a2 8 c2)=WF;intro U O y1;refine bodyPost_ret (v:=.tuple #[.agg #[.slice a1 8 c1,.slice a2 8 c2],.int .i64 0]) (by simp [results,results140,go_sem,O,y1]) rfl ?_;have af:w.heap.size<w2.heap.size:=by have:=Gx.o;have:=lt_of_block this;have:=K.o.size;omega
   have e1:=E.o.rev;have e2:=E.o.oth;rw [q.o] at e1;rw [p.o] at e2;refine⟨⟨a1,c1,a2,c2,rfl,?_,?_⟩,(J.o.then (K.o.then E.o.kept)).trans U (by intro i hi;simp at hi;subst hi;exact .inr (XA))⟩;·rw [Js.o.1];exact Slc.of_row (zk e1 U (fun g hg hx=>by have h3:=(e1.lt g hg).1;simp at hx;omega))
   ·rw [Js.o.2];exact Slc.of_row (zk e2 U (fun g hg hx=>by have h3:=(e2.lt g hg).1;simp at hx;omega))
theorem flat32 {α:Type}:∀ (ls:List (List α)) (k i:Nat) (_:∀ x,x∈ls→x.length=32) (hk:k<ls.length),i<32→ls.flatten[k*32+i]? = ls[k][i]?
 | [],_,_,_,hk,_=>by simp at hk
 | x::t,0,i,h,_,hi=>by have hx:=h x Wz;rw [List.flatten_cons,Nat.zero_mul,Nat.zero_add,List.getElem?_append_left Ws];rfl
 | x::t,k+1,i,h,hk,hi=>by have hx:=h x Wz;rw [List.flatten_cons,List.getElem?_append_right Ws,show (k+1)*32+i-x.length=k*32+i by omega,flat32 t k i (fun y a=>h y (List.mem_cons_of_mem _ a)) (by simpa using hk) hi];rfl
theorem row32 {g o:Nat}{a:List (List UInt8)}(h:Row w g o (a.flatten.map bv))(b:yT a)(k:Nat)(d:k<a.length):w.rangeAt g (o+k*32) (a[k].map bv):=fun j v hv=>by
 have e:j<32:=by have:=(List.getElem?_eq_some_iff.1 hv).1;rw [List.length_map,b _ (List.getElem_mem d)] at this;exact this
 rw [Nat.add_assoc];refine h.cells (k*32+j) v ?_;rw [List.getElem?_map] at hv ⊢;rw [flat32 a k j b d e];exact hv
theorem jC {size:Nat}{c:Nat}{xs:List Value}(h:Slc w size (.slice a n c) n xs)(e:0<n):∃ g o,a=some ⟨g,o,none⟩∧n≤c∧Row w g o xs:=by
 rcases h.2 with ⟨_,d⟩ | ⟨d,_⟩ | ⟨g,o,cap,b,h2,-,h3⟩;·omega
 ·omega
 ·simp only [Value.slice.injEq] at b;obtain⟨rfl,-,rfl⟩:=b;exact⟨g,o,rfl,h2,h3⟩
theorem yC {b:Array Oper}{rest:List Oper}{op:Oper}{a:Act}{Q:Exit→Act→World→Prop}(d:op.guard=none)(x:Operand)(f:op.op = .load 49 x){g of:Nat}{l:List UInt8}(j:w.rangeAt g of (l.map bv))(i:l.length=32)(e:a.eval x = .pointer (some ⟨g,of,none⟩))(h:wpList prog b Q rest (a.put op.dst (.agg (l.map bv).toArray)) w):wpList prog b Q (op::rest) a w:=
 wpList_load_mid d 49 x f g of e (l.map bv) _ j underlying49 rfl (by rw [List.length_map,i];exact kG) h
theorem Kb (w:World)(f a2:Option Addr)(n c1 c2:Nat)(hm:xu n=true) : zJ w 141 #[.agg #[.slice f n c1,.slice a2 n c2]] (.bool true):=by
 have p:8≤n∧n≤256:=by unfold xu at hm;simp only [Bool.and_eq_true,decide_eq_true_eq] at hm;omega
 obtain⟨a,d⟩:=XE (w.alloc (.cells #[.slice f n c1,.slice a2 n c2] 85));have j:Hid (zb [] w a):=qI (kA1 d.o);have b:a.heap[w.heap.size]? = some (.cells #[.slice f n c1,.slice a2 n c2] 85 (0,0)):=by rw [d.o];exact ze rfl
 have m:=za (o:=0) b rfl;have l:=za (o:=1) b rfl;have k:Hid (Calls prog 85 #[.int .i64 n] a fun e h=>e = .returned (.bool true)∧a=h):=qI (by have i:=vR n Ws Ws a;rw [hm] at i;exact i);clear hm b;go_enter func141,ntmps141;go_upto_region 1 with fail;rw [← d.o];go_wp2_with (go_at_call 85;refine k.o.mono ?_;rintro e h ⟨rfl,rfl⟩);go_ret;exact⟨rfl,j.o⟩
theorem imp_len {o:Qz}(e:yT o.rev)(h2:yT o.oth)(d:o.oth.length=o.rev.length){b:Nat}(a:b<o.rev.length):(JJ m o b).length=64:=by
 have h3:=vI e h2 d a;unfold JJ;split <;> rw [List.length_append,yK] <;> omega
theorem imp_flat {m:List UInt8}{o:Qz}(h1:yT o.rev)(h2:yT o.oth)(hl:o.oth.length=o.rev.length):∀ k,k≤o.rev.length→(((List.range k).map (JJ m o)).flatten).length=64*k
 | 0,_=>rfl
 | k+1,hk=>by rw [bZ,List.length_append,imp_flat h1 h2 hl k Ws,imp_len h1 h2 hl Ws];omega
theorem za8 {cm:Nat}(ah:zp w (.slice am m.length cm) m)(hm:m.length≤1048576){s:Qz}{a1 a2:Option Addr}{c1 c2:Nat}(hn:s.rev.length=n)(ad:s.oth.length=n)(t:yT s.rev)(u:yT s.oth)(aj:Slc w 32 (.slice a1 n c1) n (s.rev.flatten.map bv))(Z:Slc w 32 (.slice a2 n c2) n (s.oth.flatten.map bv))(B:xu n=true)(ab:qK w) : zJ w 111 #[.slice am m.length cm,.agg #[.slice a1 n c1,.slice a2 n c2]] (.tuple #[.agg ((jm m s).map bv).toArray,.int .i64 0]):=by
 have af:8≤n∧n≤256:=by unfold xu at B;simp only [Bool.and_eq_true,decide_eq_true_eq] at B;omega
 obtain⟨g1,X,rfl,-,ag⟩:=jC aj Ws;obtain⟨l,q,rfl,-,ai⟩:=jC Z Ws;obtain⟨H,Gd⟩:=XE ((w.alloc (.cells #[.slice (some ⟨g1,X,none⟩) n c1,.slice (some ⟨l,q,none⟩) n c2] 85)).alloc (.cells z32 49));have W:Hid (zb [] w H):=qI (kA2 Gd.o);have Jb:Hid (H.heap[w.heap.size]? = some (.cells #[.slice (some ⟨g1,X,none⟩) n c1,.slice (some ⟨l,q,none⟩) n c2] 85 (0,0))):=qI (by rw [Gd.o];exact ((zb.refl [] _).alloc _).heap (ze rfl) Wz);have Gx:Hid (yy H (w.heap.size+1) (qS ya 0)):=qI (by rw [Gd.o];exact ze Wz);have f0:=za (o:=0) Jb.o rfl;have I:=za (o:=1) Jb.o rfl;have CW:=qI (Kb H (some ⟨g1,X,none⟩) (some ⟨l,q,none⟩) n c1 c2 B);have Gp:=qI (ab.k0 W.o);have CO:Hid (yL H 162 #[.slice am m.length cm] (.agg ((vA m).map bv).toArray)):=qI (fun w2 hk=>lamOf_any ((ah.k0 W.o).k0 hk) hm (Gp.o.k0 hk));have Gt:=qI (ag.kept W.o Wz);have Gu:=qI (ai.kept W.o Wz);have aa:Hid (∀ (d:World) (b:Nat),b<256→Calls prog 163 #[.agg ((vA m).map bv).toArray,.int .i64 b] d fun e J=>e = .returned (.int .i64 (xy (vA m) b))∧zb [] d J):=qI (fun d b h=>J3 d (vA m) (zaR m) b h);have HM:Hid (∀ b,JJ m s b=if xy (vA m) b=0 then qe (s.rev.getD b [])++s.oth.getD b [] else s.oth.getD b []++qe (s.rev.getD b [])):=qI (fun _=>rfl);have Mf:Hid (jm m s=JS tKey [((List.range n).map (JJ m s)).flatten]):=qI (by unfold jm;rw [hn]);have Jw:Hid (∀ k,k≤n→(((List.range k).map (JJ m s)).flatten).length=64*k):=qI (fun k hk=>imp_flat t u Ws k Ws);have Ge:Hid (∀ k,xy (vA m) k<2):=qI (fun k=>JB _ _);have Mg:=qI hn;have Mh:=qI ad;have C:=qI (And.intro t u);have ar:(n:Int)≤256:=Ws;have al:(m.length:Int)≤1048576:=Ws;have Jc:=qI af;clear ah hm aj Z ab B ag ai t u hn ad af;generalize aq:m.length=mn at CO al;generalize vA m=md at CO aa HM Ge;go_enter func111,ntmps111;go_upto_region 1 with fail;refine xg Gd.o ?_;go_upto_region 6 with first
  | (go_at_call 141;refine CW.o.mh ?_;rintro e w2 rfl Gi)
  | (go_at_call 162;refine (CO.o _ Gi.o).mono ?_;rintro e F ⟨rfl,E⟩;have Mi:=qI E;clear E)
 obtain⟨W4,Jx⟩:=XE (F.alloc (.cells #[.slice none 0 0] 125));have Jm:Hid (qG F F.heap.size W4 []):=qI (by rw [Jx.o];exact sumsNew F);have Gf:Hid (zb [] H F):=qI (Gi.o.then Mi.o);have ak:=(Gf.o.then Jm.o.kept).cell f0 Wz;clear f0;go_upto_region 7 with fail;rw [← Jx.o];generalize hp:F.heap.size=p at Jm;have HP:=qI hp;clear hp;go_wp2_with fail;go_loopw [8,9,28] (fun _ _ i wr=>∃ k:Nat,i = .int .i64 k∧k≤n∧qG F p wr ((List.range k).map (JJ m s)).flatten) (fun _ _ i _=>n-(intOf i).toNat);case atStart=>exact⟨0,rfl,XB,Jm.o⟩
 case round=>
  obtain⟨k,rfl,hk,ae⟩:=hrel;have L:=qI ae;clear ae ak;rcases Nat.lt_or_ge k n with z | z
  ·have an:(k:Int)<n:=by omega
   have Jy:=qI an;have Jd:=qI z;have O:Hid (zb [] H wr):=qI (Gf.o.then L.o.kept);have N:k<s.rev.length:=by rw [Mg.o];exact z
   have K:k<s.oth.length:=by rw [Mh.o];exact z
   have Jz:Hid (wr.rangeAt g1 (X+k*32) (s.rev[k].map bv)):=qI (row32 (Gt.o.kept O.o Wz) C.o.1 k N);have Gm:Hid (wr.rangeAt l (q+k*32) (s.oth[k].map bv)):=qI (row32 (Gu.o.kept O.o Wz) C.o.2 k K);have Q:Hid (s.rev[k].length=32):=qI (C.o.1 _ (List.getElem_mem _));have Gv:Hid (s.oth[k].length=32):=qI (C.o.2 _ (List.getElem_mem _));have M:Hid (JJ m s k=if xy md k=0 then qe s.rev[k]++s.oth[k] else s.oth[k]++qe s.rev[k]):=qI (by
    rw [HM.o,List.getD,List.getElem?_eq_getElem N,List.getD,List.getElem?_eq_getElem K];rfl)
   have Ma:=qI (bZ (JJ m s) k);have Mb:=qI (Jw.o k Ws);have D:Hid (yL H 88 #[.agg (s.rev[k].map bv).toArray] (.agg ((qe s.rev[k]).map bv).toArray)):=qI (fun d E=>ZC d _ Q.o (Gp.o.k0 E));have Jn:Hid ((qe s.rev[k]).length=32):=qI (yK _);have P:Hid (∀ d,Calls prog 163 #[.agg (md.map bv).toArray,.int .i64 k] d fun e J=>e = .returned (.int .i64 (xy md k))∧zb [] d J):=qI (fun d=>aa.o d k (XC Jc.o));have Jo:=qI (Ge.o k);have I:=O.o.cell I Wz;generalize qe s.rev[k]=u1 at D M Jn;generalize s.rev[k]=x1 at Jz Q D;generalize s.oth[k]=y1 at Gm Gv M;generalize xy md k=sd at P M Jo;clear N K z;go_upto_region 10 with first
    | (refine yC Wk _ rfl (g:=g1) (of:=X+k*32) Jz.o Q.o Wk ?_)
    | (refine zL Wk (.tmp 9) (.tmp 32) Wk (g:=wr.heap.size) (l0:=qS ya 0) (ze rfl) (yu _ _) Q.o Wk Wk ?_;intro w4 h4 f;have Gw:=qI h4;have Je:Hid (zb [] wr w4):=qI (((zb.refl [] wr).alloc _).trans f (by intro i hi;simp at hi;subst hi;exact .inr (XA)));clear h4 f;simp only [Act.put])
   have ap:sd=0∨sd=1:=XC Jo.o;clear I Jo;rcases ap with rfl | rfl
   ·rw [if_pos rfl] at M;go_upto_region 11 with (go_at_call 163;refine (P.o _).mh ?_;rintro e A rfl r);have G:=qI (Je.o.then r.o);have Jp:=qI (Gw.o.k0 r.o);have Jq:Hid (A.rangeAt l (q+k*32) (y1.map bv)):=qI (fun j v hv=>G.o.cell (Gm.o j v hv) Wz);have I:=za (o:=1) ((O.o.then G.o).heap Jb.o Wz) rfl;have CU:Hid (∀ d,zb [] A d→_):=qI (fun d h=>D.o d ((O.o.then G.o).then h));have CA:Hid (∀ d,zb [] A d→Calls prog 87 #[.pointer (some ⟨p,0,none⟩),.agg (u1.map bv).toArray,.agg (y1.map bv).toArray] d fun e J=>e = .returned (.tuple #[])∧qG F p J ((List.range (k+1)).map (JJ m s)).flatten):=qI (fun d h=>by
     have h1:=bu (L.o.k0 (G.o.then h)) Jn.o Gv.o (XH Mb.o Jc.o);rw [Ma.o,M.o,← List.append_assoc];exact h1)
    refine yz (n:=58) 8 [fI (.pointer (some ⟨p,0,none⟩)),
     fI (.agg (x1.map bv).toArray),
     fI (.agg (u1.map bv).toArray),
     fI (.pointer (some ⟨w.heap.size,1,none⟩)),
     fI (.slice (some ⟨l,q,none⟩) n c2),
     fI (.int .i64 k),
     fI (.pointer (some ⟨l,q+k*32,none⟩)),
     fI (.agg (y1.map bv).toArray)] Wr rfl Wr (fun x=>qm) ?_ ?_
    ·refine⟨?_,?_,?_,?_,?_,?_,?_,?_,trivial⟩ <;> intro x w2 a b hd;·exact zi
     ·change wpList _ _ _ [_] _ _;refine yY Wk (.tmp 9) Wk (Jp.o.k0 a) Q.o Wk ?_;exact⟨rfl,_,rfl,rfl,Wd⟩
     ·have d1:x 1=_:=hd 1 Wr;have CX:=CU.o w2 a;go_wp2_with (go_at_call 88;refine CX.mh ?_;rintro e A rfl r);exact⟨rfl,r.o⟩
     ·exact zi
     ·have d3:x 3=_:=hd 3 Wr;have y0:=a.cell I Wz;exact zi
     ·exact zi
     ·have d4:x 4=_:=hd 4 Wr;have d5:x 5=_:=hd 5 Wr;have ao:=Jy.o;exact zi
     ·have d6:x 6=_:=hd 6 Wr;change wpList _ _ _ [_] _ _;refine yC Wk _ rfl (g:=l) (of:=q+k*32) (fun j v hv=>a.cell (Jq.o j v hv) Wz) Gv.o d6 ?_;exact⟨rfl,_,rfl,rfl,Wd⟩
    ·intro x w7 a b7 hd y;have d0:x 0=_:=hd 0 Wo;have d2:x 2=_:=hd 2 Wo;have d7:x 7=_:=hd 7 Wo;have Jr:=qI a;clear hd y a;change wpList _ _ _ [_] _ _;go_wp2_with (go_at_call 87;refine (CA.o _ Jr.o).mono ?_;rintro e w8 ⟨rfl,z⟩;have H8:=qI z;clear z);case roundEnd=>exact⟨⟨k+1,by go_num,by have:=Jd.o;omega,H8.o⟩,by have:=Jd.o;simp [intOf];omega⟩
   ·rw [if_neg Wo] at M;go_upto_region 12 with (go_at_call 163;refine (P.o _).mh ?_;rintro e A rfl r);have G:=qI (Je.o.then r.o);have Jp:=qI (Gw.o.k0 r.o);have Jq:Hid (A.rangeAt l (q+k*32) (y1.map bv)):=qI (fun j v hv=>G.o.cell (Gm.o j v hv) Wz);have I:=za (o:=1) ((O.o.then G.o).heap Jb.o Wz) rfl;have CU:Hid (∀ d,zb [] A d→_):=qI (fun d h=>D.o d ((O.o.then G.o).then h));have CA:Hid (∀ d,zb [] A d→Calls prog 87 #[.pointer (some ⟨p,0,none⟩),.agg (y1.map bv).toArray,.agg (u1.map bv).toArray] d fun e J=>e = .returned (.tuple #[])∧qG F p J ((List.range (k+1)).map (JJ m s)).flatten):=qI (fun d h=>by
     have h1:=bu (L.o.k0 (G.o.then h)) Gv.o Jn.o (XH Mb.o Jc.o);rw [Ma.o,M.o,← List.append_assoc];exact h1)
    refine yz (n:=58) 8 [fI (.pointer (some ⟨p,0,none⟩)),
     fI (.pointer (some ⟨w.heap.size,1,none⟩)),
     fI (.slice (some ⟨l,q,none⟩) n c2),
     fI (.int .i64 k),
     fI (.pointer (some ⟨l,q+k*32,none⟩)),
     fI (.agg (y1.map bv).toArray),
     fI (.agg (x1.map bv).toArray),
     fI (.agg (u1.map bv).toArray)] Wr rfl Wr (fun x=>qm) ?_ ?_
    ·refine⟨?_,?_,?_,?_,?_,?_,?_,?_,trivial⟩ <;> intro x w2 a b hd;·exact zi
     ·exact zi
     ·have d1:x 1=_:=hd 1 Wr;have y0:=a.cell I Wz;exact zi
     ·exact zi
     ·have d2:x 2=_:=hd 2 Wr;have d3:x 3=_:=hd 3 Wr;have ao:=Jy.o;exact zi
     ·have d4:x 4=_:=hd 4 Wr;change wpList _ _ _ [_] _ _;refine yC Wk _ rfl (g:=l) (of:=q+k*32) (fun j v hv=>a.cell (Jq.o j v hv) Wz) Gv.o d4 ?_;exact⟨rfl,_,rfl,rfl,Wd⟩
     ·change wpList _ _ _ [_] _ _;refine yY Wk (.tmp 9) Wk (Jp.o.k0 a) Q.o Wk ?_;exact⟨rfl,_,rfl,rfl,Wd⟩
     ·have d6:x 6=_:=hd 6 Wr;have CX:=CU.o w2 a;go_wp2_with (go_at_call 88;refine CX.mh ?_;rintro e A rfl r);exact⟨rfl,r.o⟩
    ·intro x w7 a b7 hd y;have d0:x 0=_:=hd 0 Wo;have d5:x 5=_:=hd 5 Wo;have d7:x 7=_:=hd 7 Wo;have Jr:=qI a;clear hd y a;change wpList _ _ _ [_] _ _;go_wp2_with (go_at_call 87;refine (CA.o _ Jr.o).mono ?_;rintro e w8 ⟨rfl,z⟩;have H8:=qI z;clear z);case roundEnd=>exact⟨⟨k+1,by go_num,by have:=Jd.o;omega,H8.o⟩,by have:=Jd.o;simp [intOf];omega⟩
  ·obtain rfl:k=n:=by omega
   have P:Hid (zJ wr 90 #[.pointer (some ⟨p,0,none⟩)] (.agg ((jm m s).map bv).toArray)):=qI (by
    rw [Mf.o];exact YK L.o (XH (Jw.o k (XA)) Jc.o) (Gp.o.k0 (Gf.o.then L.o.kept)))
   have Gk:Hid ((jm m s).length=32):=qI (Qj _ _);generalize U:jm m s=sl at P Gk;have Mj:=qI U;clear U;have Mk:=qI (Gx.o.k0 (Gf.o.then L.o.kept));go_wp2_with first
    | (go_at_call 90;refine P.o.mono ?_;rintro e w4 ⟨rfl,f⟩;have Je:=qI f;have Ml:=qI (Mk.o.k0 f);clear f)
    | (refine zL Wk (.tmp 4) (.tmp 57) Wk Ml.o (yu _ _) Gk.o Wk Wk ?_;intro A h5 R;have H5:=qI h5;have r:=qI R;clear h5 R)
   have Y:=H5.o.var Gk.o;refine bodyPost_ret (v:=.tuple #[.agg (sl.map bv).toArray,.int .i64 0]) (by simp only [results,results111];simp [Y,Sem.run_bind,asAddr,Act.put]) rfl ⟨by rw [Mj.o],?_⟩;exact ((W.o.then (Gf.o.then L.o.kept)).then Je.o).trans r.o (by intro i hi;simp at hi;subst hi;exact .inr Ws)
end Go.Proofs.YtjccecajigmfkaaGreatDoor

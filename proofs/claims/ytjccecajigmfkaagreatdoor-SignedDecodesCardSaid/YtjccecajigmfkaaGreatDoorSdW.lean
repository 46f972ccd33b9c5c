/- Parts of one proof, merged: XCI XCJ XCK XCL XCM XCN XCP XCQ XCR. -/
import Derived.Test.YtjccecajigmfkaaGreatDoorSdV
import Derived.Test.YtjccecajigmfkaaGreatDoorSdR
import Derived.Laws.BitsAllLaws
import Derived.Deep.QuietTactic
import Derived.RangeFuncLeaves
import Derived.Shelf.Abstract
import Derived.TacticsInMore
import Derived.LoopNIn
import Derived.LoopIn
set_option linter.all false
set_option maxHeartbeats 12800000
set_option maxRecDepth 100000
namespace Go.Proofs.YtjccecajigmfkaaGreatDoor
open Go.Proofs.Tryz
open Go.RowKit
variable {Bn Bs N:Nat}{W W':World}{a a2 am:Option Addr}{b i k:Nat}{l:List UInt8}{lf:Int}{m:List UInt8}{n off p:Nat}{ps:List (List UInt8)}{size:Nat}{w w':World}{x:List UInt8}{xs:List Value}
theorem lamSign_any {c:Nat}{seed:List UInt8}(hb:zm w (.slice a seed.length c) seed)(hs:seed.length≤64)(leaf:Nat)(hl:leaf≤1000){cm:Nat}(P:zm w (.slice am m.length cm) m)(hm:m.length≤1048576)(G:kg w) : Calls prog 140 #[.slice a seed.length c,.int .i64 leaf,.int .i64 8,.slice am m.length cm] w fun e w'=>(∃ a1 c1 a2 c2,e = .returned (.tuple #[.agg #[.slice a1 8 c1,.slice a2 8 c2],.int .i64 0])∧Slc w' 32 (.slice a1 8 c1) 8 ((vM seed leaf 8 m).rev.flatten.map bv)∧Slc w' 32 (.slice a2 8 c2) 8 ((vM seed leaf 8 m).oth.flatten.map bv))∧zb [] w w':=by
 obtain⟨t,Gb⟩:=XE (w.alloc (.cells #[.slice none 0 0,.slice none 0 0] 85));have R:Hid (zb [] w t):=qI (kA1 Gb.o);have Gx:Hid (t.heap[w.heap.size]? = some (.cells #[.slice none 0 0,.slice none 0 0] 85 (0,0))):=qI (by rw [Gb.o];exact zd rfl);have CM:Hid (Calls prog 85 #[.int .i64 8] t fun e w'=>e = .returned (.bool true)∧t=w'):=qI (bp 8 Wo Wo t);have CK:=qI (za8 (w:=t) (a:=a) (c:=c) hs leaf Ws);have CO:=qI (lamOf_any (P.k0 R.o) hm (G.k0 R.o));have HS:=qI hs;have HB:=qI (hb.k0 R.o);have Gy:=qI (G.k0 R.o);have Yq:=qI hl;have ab:(m.length:Int)≤1048576:=Ws;have CS:Hid (∀ (f:World) (b r:Nat),zb [] t f→b<8→r<2→Calls prog 89 #[.slice a seed.length c,.int .i64 leaf,.int .i64 b,.int .i64 r] f fun e w'=>e = .returned (.agg ((kL seed leaf b r).map bv).toArray)∧zb [] f w'):=qI (fun f b r hk h1 h2=>zb5 (HB.o.k0 hk) HS.o leaf b r (XC Yq.o) Ws Ws (Gy.o.k0 hk));have L:Hid (∀ (f:World) (b:Nat),b<8→Calls prog 163 #[.agg ((vQ m).map bv).toArray,.int .i64 b] f fun e w'=>e = .returned (.int .i64 (xB (vQ m) b))∧zb [] f w'):=qI (fun f b h=>zas f (vQ m) (zbA m) b Ws);have Jr:Hid (∀ k,((List.range (k+1)).map (revL seed leaf m))=(List.range k).map (revL seed leaf m)++[kL seed leaf k (xB (vQ m) k)]):=qI (fun k=>by rw [VJ,Xc];rfl);have Js:Hid (∀ k,((List.range (k+1)).map (othL seed leaf m))=(List.range k).map (othL seed leaf m)++[qj (kL seed leaf k (1-xB (vQ m) k))]):=qI (fun k=>by rw [VJ,Xc];rfl);have Gn:Hid (∀ k,xB (vQ m) k<2):=qI (fun k=>zab _ _);have Ye:Hid ((vM seed leaf 8 m).rev=(List.range 8).map (revL seed leaf m)∧(vM seed leaf 8 m).oth=(List.range 8).map (othL seed leaf m)):=qI ⟨rfl,rfl⟩;clear hb hs hl P hm G;generalize ak:seed.length=sn at CK CS;generalize aj:m.length=mn at CO ab;generalize vQ m=md at CO L Jr Js Gn;go_enter func140,ntmps140;go_upto_region 1 with fail;rw [← Gb.o];go_wp2_with first
  | (go_at_call 85;refine CM.o.mono ?_;rintro e w' ⟨rfl,rfl⟩)
  | (go_at_call 86;refine CK.o.mono ?_;rintro e w' ⟨rfl,rfl⟩)
  | (go_at_call 162;refine CO.o.mh ?_;rintro e w2 rfl K)
 obtain⟨W3,Jp⟩:=XE (w2.alloc (.cells #[.slice none 0 0,.slice none 0 0] 85));have Jt:Hid (jW w2 w2.heap.size W3 none 0 none 0 [] []):=qI (by rw [Jp.o];exact out_new w2);rw [← Jp.o];generalize W:w2.heap.size=gb at Jt;have Di:=qI W;clear W;go_loopw [12,33] (fun _ i wr=>∃ (k:Nat) (a1 a2:Option Addr) (c1 c2:Nat),i = .int .i64 k∧k≤8∧jW w2 gb wr a1 c1 a2 c2 ((List.range k).map (revL seed leaf m)) ((List.range k).map (othL seed leaf m))) (fun _ i _=>8-(intOf i).toNat);case atStart=>exact⟨0,none,none,0,0,rfl,XB,Jt.o⟩
 case round=>
  obtain⟨k,a1,a2,c1,c2,rfl,hk,s⟩:=hrel;have H:=qI s;have p:Hid (((List.range k).map (revL seed leaf m)).length=k):=qI Wz;have q:Hid (((List.range k).map (othL seed leaf m)).length=k):=qI Wz;rcases Xr k 8 with h8 | h8
  ·have al:(k:Int)<8:=by omega
   have Gz:Hid (zb [] t wr):=qI (K.o.then s.kept);have Mj:=qI (Jr.o k);have Mk:=qI (Js.o k);have CD:Hid (∀ f,Calls prog 163 #[.agg (md.map bv).toArray,.int .i64 k] f fun e w'=>e = .returned (.int .i64 (xB md k))∧zb [] f w'):=qI (fun f=>L.o f k h8);have Z:=qI (Gn.o k);have E:Hid (xz wr 89 #[.slice a sn c,.int .i64 leaf,.int .i64 k,.int .i64 (xB md k)] (.agg ((kL seed leaf k (xB md k)).map bv).toArray)):=qI (fun f A=>CS.o f k _ (Gz.o.then A) h8 Z.o);have u:Hid (xz t 89 #[.slice a sn c,.int .i64 leaf,.int .i64 k,.int .i64 (1-(xB md k:Int))] (.agg ((kL seed leaf k (1-xB md k)).map bv).toArray)):=qI (fun f A=>by
    have h1:=CS.o f k (1-xB md k) A h8 Ws;have h2:((1-xB md k:Nat):Int)=1-(xB md k:Int):=XC Z.o;rw [h2] at h1;exact h1)
   have Gh:Hid ((kL seed leaf k (xB md k)).length=32):=qI (bG _ _ _ _);have Ja:Hid ((kL seed leaf k (1-xB md k)).length=32):=qI (bG _ _ _ _);have Ml:Hid ((qj (kL seed leaf k (1-xB md k))).length=32):=qI (yP _);have F:Hid (xz t 88 #[.agg ((kL seed leaf k (1-xB md k)).map bv).toArray] (.agg ((qj (kL seed leaf k (1-xB md k))).map bv).toArray)):=qI (fun f A=>Z3 f _ (bG _ _ _ _) (Gy.o.k0 A));generalize qj (kL seed leaf k (1-xB md k))=x3 at F Ml Mk;generalize kL seed leaf k (1-xB md k)=x2 at u F Ja;generalize kL seed leaf k (xB md k)=x1 at E Gh Mj;generalize xB md k=sd at CD Z E u;generalize (List.range k).map (revL seed leaf m)=rv at H p Mj;generalize (List.range k).map (othL seed leaf m)=ot at H q Mk;have f0:=za (o:=0) H.o.box rfl;rw [p.o] at f0;clear s;go_upto_region 10 with fail
   refine yG (n:=64) 10 [fI (.pointer (some ⟨gb,0,none⟩)),
    fI (.slice a1 k c1),
    fI (.slice a sn c),
    fI (.int .i64 leaf),
    fI (.int .i64 k),
    fI (.func (.func 163) #[.agg (md.map bv).toArray] #[]),
    fI (.int .i64 k),
    fI (.int .i64 sd),
    fI (.agg (x1.map bv).toArray),
    je (x1.map bv) 1 32] Wr rfl Wr (fun x=>qB) ?_ ?_
   ·refine⟨?_,?_,?_,?_,?_,?_,?_,?_,?_,?_,trivial⟩ <;> intro x w2 d b hd;·exact zi
    ·have d0:x 0=_:=hd 0 Wr;have M:=d.cell f0 Wz;exact zi
    ·exact zi
    ·exact zi
    ·exact zi
    ·exact zi
    ·exact zi
    ·have d5:x 5=_:=hd 5 Wr;have d6:x 6=_:=hd 6 Wr;have C:=CD.o w2;go_wp2_with (go_at_call 163;refine C.mh ?_;rintro e w5 rfl D);exact⟨rfl,D.o⟩
    ·have d2:x 2=_:=hd 2 Wr;have d3:x 3=_:=hd 3 Wr;have d4:x 4=_:=hd 4 Wr;have d7:x 7=_:=hd 7 Wr;have C:=E.o w2 d;go_wp2_with (go_at_call 89;refine C.mh ?_;rintro e w5 rfl D);exact⟨rfl,D.o⟩
    ·have d8:x 8=_:=hd 8 Wr;change wpList _ _ _ [_] _ _;refine ki underlying78 ja J8 Wo Wo Wk _ rfl (cs:=x1.map bv) (by simp [Gh.o]) d8 ?_;exact⟨rfl,_,rfl,⟨w2.heap.size,rfl,XA,Wz,yE w2 (x1.map bv) 32 1 _ _ rfl (by simp [Gh.o]) Wo⟩,Wd.alloc _⟩
   ·intro x w7 d b7 hd y;have d1:x 1=_:=hd 1 Wo;obtain⟨g9,d9,-,-,B⟩:=hd 9 Wo;have Gk:=qI B;have Jg:=qI (H.o.k0 d);have Yr:=qI d;clear hd y d B;change wpList _ _ _ [_,_,_] _ _;go_wp2_with (at_builtin;refine zz ty32 (v:=.slice a1 k c1) (n:=k) (xs:=rv.flatten.map bv) (by have Q:=Jg.o.rev;rw [p.o] at Q;exact Q) Gk.o (qr _) (by simp only [maxLen];omega) Ws Jg.o.kept.size rfl _ _ rfl d1 d9 ?_;intro v5 w8 l O _ N;obtain⟨a5,c5,rfl,-,-⟩:=(Slc.of_row l).form;obtain⟨u0,uf,ho8⟩:=Jg.o.push0 (x:=x1) (a5:=a5) (c5:=c5) (by rw [p.o];exact l) (by rw [p.o];exact O) (by rw [p.o];exact N);rw [p.o] at u0 ho8;rw [← Mj.o] at ho8;have Y:=qI ho8;clear l O N ho8);generalize w8.setCell ⟨gb,0,none⟩ (.slice a5 (k+1) c5)=w9 at Y;have Yf:Hid (zb [] t w9):=qI (K.o.then Y.o.kept);have ad:Hid (∀ f,zb [] t f→_):=u;have CU:Hid (∀ f,zb [] t f→_):=F;have X:=za (o:=1) Y.o.box rfl;rw [q.o] at X;clear u0 uf;go_upto_region 11 with fail
    refine yG (n:=64) 12 [fI (.pointer (some ⟨gb,1,none⟩)),
     fI (.slice a2 k c2),
     fI (.slice a sn c),
     fI (.int .i64 leaf),
     fI (.int .i64 k),
     fI (.func (.func 163) #[.agg (md.map bv).toArray] #[]),
     fI (.int .i64 k),
     fI (.int .i64 sd),
     fI (.int .i64 (1-(sd:Int))),
     fI (.agg (x2.map bv).toArray),
     fI (.agg (x3.map bv).toArray),
     je (x3.map bv) 1 32] Wr rfl Wr (fun x=>qB) ?_ ?_
    ·refine⟨?_,?_,?_,?_,?_,?_,?_,?_,?_,?_,?_,?_,trivial⟩ <;> intro x w2 d b hd;·exact zi
     ·have d0:x 0=_:=hd 0 Wr;have M:=d.cell X Wz;exact zi
     ·exact zi
     ·exact zi
     ·exact zi
     ·exact zi
     ·exact zi
     ·have d5:x 5=_:=hd 5 Wr;have d6:x 6=_:=hd 6 Wr;have C:=CD.o w2;go_wp2_with (go_at_call 163;refine C.mh ?_;rintro e w5 rfl D);exact⟨rfl,D.o⟩
     ·have d7:x 7=_:=hd 7 Wr;have h2:=Z.o;have hw:wrap64 (1-(sd:Int))=1-(sd:Int):=by unfold wrap64;omega
      exact zi
     ·have d2:x 2=_:=hd 2 Wr;have d3:x 3=_:=hd 3 Wr;have d4:x 4=_:=hd 4 Wr;have d8:x 8=_:=hd 8 Wr;have C:=ad.o w2 (Yf.o.then d);go_wp2_with (go_at_call 89;refine C.mh ?_;rintro e w5 rfl D);exact⟨rfl,D.o⟩
     ·have d9:x 9=_:=hd 9 Wr;have C:=CU.o w2 (Yf.o.then d);go_wp2_with (go_at_call 88;refine C.mh ?_;rintro e w5 rfl D);exact⟨rfl,D.o⟩
     ·have ae:x 10=_:=hd 10 Wr;change wpList _ _ _ [_] _ _;refine ki underlying78 ja J8 Wo Wo Wk _ rfl (cs:=x3.map bv) (by simp [Ml.o]) ae ?_;exact⟨rfl,_,rfl,⟨w2.heap.size,rfl,XA,Wz,yE w2 (x3.map bv) 32 1 _ _ rfl (by simp [Ml.o]) Wo⟩,Wd.alloc _⟩
    ·intro x ai d ah hd y;have d1:x 1=_:=hd 1 Wo;obtain⟨g9,aa,-,-,B⟩:=hd 11 Wo;have Gk:=qI B;have Mm:=qI (Y.o.k0 d);clear hd y d B;change wpList _ _ _ [_,_,_] _ _;go_wp2_with (at_builtin;refine zz ty32 (v:=.slice a2 k c2) (n:=k) (xs:=ot.flatten.map bv) (by have Q:=Mm.o.oth;rw [q.o] at Q;exact Q) Gk.o (qr _) (by simp only [maxLen];omega) Ws Mm.o.kept.size rfl _ _ rfl d1 aa ?_;intro v6 af l U _ J;obtain⟨a6,c6,rfl,-,-⟩:=(Slc.of_row l).form;obtain⟨u0,uf,ho13⟩:=Mm.o.push1 (x:=x3) (a5:=a6) (c5:=c6) (by rw [q.o];exact l) (by rw [q.o];exact U) (by rw [q.o];exact J);rw [q.o] at u0 ho13;rw [← Mk.o] at ho13;have Mn:=qI ho13;clear l U J ho13);case roundEnd=>exact⟨⟨k+1,a5,a6,c5,c6,by go_num,Ws,Mn.o⟩,by simp [intOf];omega⟩
  ·obtain rfl:k=8:=by omega
   have f0:=za (o:=0) s.box rfl;have X:=za (o:=1) s.box rfl;rw [p.o] at f0;rw [q.o] at X;have Jc:=qI (s.kept.heap (K.o.heap Gx.o Wz) Wz);have r0:=za (o:=0) Jc.o rfl;have r1:=za (o:=1) Jc.o rfl;have z:∀ j,wr.frozen? ⟨w.heap.size,j,none⟩=false:=fun j=>zh Jc.o;clear s;go_wp2_with fail;change bodyPost _ _ _ _ _ (put2 wr w.heap.size (.slice a1 8 c1) (.slice a2 8 c2));have I:=ZL wr w.heap.size (.slice a1 8 c1) (.slice a2 8 c2);have Gi:=put2_at Jc.o (.slice a1 8 c1) (.slice a2 8 c2);have M:=za (o:=0) Gi rfl;have y1:=za (o:=1) Gi rfl;revert I M y1;clear Gi;generalize put2 wr w.heap.size (.slice a1 8 c1) (.slice a2 8 c2)=WF;intro I M y1;refine bodyPost_ret (v:=.tuple #[.agg #[.slice a1 8 c1,.slice a2 8 c2],.int .i64 0]) (by simp [results,results140,go_sem,M,y1]) rfl ?_;have ag:w.heap.size<w2.heap.size:=by have:=Gx.o;have:=lt_of_block this;have:=K.o.size;omega
   have e1:=H.o.rev;have e2:=H.o.oth;rw [p.o] at e1;rw [q.o] at e2;refine⟨⟨a1,c1,a2,c2,rfl,?_,?_⟩,(R.o.then (K.o.then H.o.kept)).trans I (by intro i hi;simp at hi;subst hi;exact .inr (XA))⟩;·rw [Ye.o.1];exact Slc.of_row (zk e1 I (fun g hg hx=>by have h3:=(e1.lt g hg).1;simp at hx;omega))
   ·rw [Ye.o.2];exact Slc.of_row (zk e2 I (fun g hg hx=>by have h3:=(e2.lt g hg).1;simp at hx;omega))
theorem flat32 {α:Type}:∀ (ls:List (List α)) (k i:Nat) (_:∀ x,x∈ls→x.length=32) (hk:k<ls.length),i<32→ls.flatten[k*32+i]? = ls[k][i]?
 | [],_,_,_,hk,_=>by simp at hk
 | x::t,0,i,h,_,hi=>by have hx:=h x Wz;rw [Xu,Nat.zero_mul,Xd,Xz Ws];rfl
 | x::t,k+1,i,h,hk,hi=>by have hx:=h x Wz;rw [Xu,Xx Ws,show (k+1)*32+i-x.length=k*32+i by omega,flat32 t k i (fun y a=>h y (Xj _ a)) (by simpa using hk) hi];rfl
theorem row32 {g o:Nat}{a:List (List UInt8)}(h:Row w g o (a.flatten.map bv))(b:yU a)(k:Nat)(d:k<a.length):w.rangeAt g (o+k*32) (a[k].map bv):=fun j v hv=>by
 have e:j<32:=by have:=(X6.1 hv).1;rw [Xb,b _ (XX d)] at this;exact this
 rw [uS];refine h.cells (k*32+j) v ?_;rw [Xs] at hv ⊢;rw [flat32 a k j b d e];exact hv
theorem jR {c:Nat}(h:Slc w size (.slice a n c) n xs)(e:0<n):∃ g o,a=some ⟨g,o,none⟩∧n≤c∧Row w g o xs:=by
 rcases h.2 with ⟨_,d⟩ | ⟨d,_⟩ | ⟨g,o,cap,b,h2,-,h3⟩;·omega
 ·omega
 ·simp only [XU] at b;obtain⟨rfl,-,rfl⟩:=b;exact⟨g,o,rfl,h2,h3⟩
theorem yy {b:Array Oper}{rest:List Oper}{op:Oper}{a:Act}{Q:Exit→Act→World→Prop}(d:op.guard=none)(x:Operand)(j:op.op = .load 49 x){g of:Nat}(f:w.rangeAt g of (l.map bv))(e:l.length=32)(i:a.eval x = .pointer (some ⟨g,of,none⟩))(h:wpList prog b Q rest (a.put op.dst (.agg (l.map bv).toArray)) w):wpList prog b Q (op::rest) a w:=
 wpList_load_mid d 49 x j g of i (l.map bv) _ f underlying49 rfl (by rw [Xb,e];exact ja) h
theorem KD (w:World)(d a2:Option Addr)(n c1 c2:Nat)(hm:xw n=true) : zG w 141 #[.agg #[.slice d n c1,.slice a2 n c2]] (.bool true):=by
 have m:8≤n∧n≤256:=by unfold xw at hm;simp only [XR,Xa] at hm;omega
 obtain⟨a,f⟩:=XE (w.alloc (.cells #[.slice d n c1,.slice a2 n c2] 85));have i:Hid (zb [] w a):=qI (kA1 f.o);have b:a.heap[w.heap.size]? = some (.cells #[.slice d n c1,.slice a2 n c2] 85 (0,0)):=by rw [f.o];exact zd rfl
 have k:=za (o:=0) b rfl;have l:=za (o:=1) b rfl;have j:Hid (Calls prog 85 #[.int .i64 n] a fun e w'=>e = .returned (.bool true)∧a=w'):=qI (by have h:=bp n Ws Ws a;rw [hm] at h;exact h);clear hm b;go_enter func141,ntmps141;go_upto_region 1 with fail;rw [← f.o];go_wp2_with (go_at_call 85;refine j.o.mono ?_;rintro e w' ⟨rfl,rfl⟩);go_ret;exact⟨rfl,i.o⟩
theorem imp_len {o:Q4}(d:yU o.rev)(h2:yU o.oth)(a:o.oth.length=o.rev.length)(e:b<o.rev.length):(zaa m o b).length=64:=by
 have h3:=v8 d h2 a e;unfold zaa;split <;> rw [XM,yP] <;> omega
theorem imp_flat {m:List UInt8}{o:Q4}(h1:yU o.rev)(h2:yU o.oth)(hl:o.oth.length=o.rev.length):∀ k,k≤o.rev.length→(((List.range k).map (zaa m o)).flatten).length=64*k
 | 0,_=>rfl
 | k+1,hk=>by rw [ZE,XM,imp_flat h1 h2 hl k Ws,imp_len h1 h2 hl Ws];omega
theorem zbT {cm:Nat}(ab:zm w (.slice am m.length cm) m)(hm:m.length≤1048576){s:Q4}{a1:Option Addr}{c1 c2:Nat}(hn:s.rev.length=n)(Q:s.oth.length=n)(t:yU s.rev)(r:yU s.oth)(ag:Slc w 32 (.slice a1 n c1) n (s.rev.flatten.map bv))(ae:Slc w 32 (.slice a2 n c2) n (s.oth.flatten.map bv))(C:xw n=true)(ad:kg w) : zG w 111 #[.slice am m.length cm,.agg #[.slice a1 n c1,.slice a2 n c2]] (.tuple #[.agg ((jB m s).map bv).toArray,.int .i64 0]):=by
 have U:8≤n∧n≤256:=by unfold xw at C;simp only [XR,Xa] at C;omega
 obtain⟨g1,Y,rfl,-,P⟩:=jR ag Ws;obtain⟨q,l,rfl,-,W⟩:=jR ae Ws;obtain⟨G,Gb⟩:=XE ((w.alloc (.cells #[.slice (some ⟨g1,Y,none⟩) n c1,.slice (some ⟨q,l,none⟩) n c2] 85)).alloc (.cells z32 49));have Gc:Hid (zb [] w G):=qI (kA2 Gb.o);have Mf:Hid (G.heap[w.heap.size]? = some (.cells #[.slice (some ⟨g1,Y,none⟩) n c1,.slice (some ⟨q,l,none⟩) n c2] 85 (0,0))):=qI (by rw [Gb.o];exact ((zb.refl [] _).alloc _).heap (zd rfl) Wz);have Gx:Hid (yr G (w.heap.size+1) (ku zX 0)):=qI (by rw [Gb.o];exact zd Wz);have f0:=za (o:=0) Mf.o rfl;have J:=za (o:=1) Mf.o rfl;have CW:=qI (KD G (some ⟨g1,Y,none⟩) (some ⟨q,l,none⟩) n c1 c2 C);have Gy:=qI (ad.k0 Gc.o);have CO:Hid (xz G 162 #[.slice am m.length cm] (.agg ((vQ m).map bv).toArray)):=qI (fun w2 hk=>lamOf_any ((ab.k0 Gc.o).k0 hk) hm (Gy.o.k0 hk));have Ju:=qI (P.kept Gc.o Wz);have Jv:=qI (W.kept Gc.o Wz);have R:Hid (∀ (d:World) (b:Nat),b<256→Calls prog 163 #[.agg ((vQ m).map bv).toArray,.int .i64 b] d fun e w'=>e = .returned (.int .i64 (xB (vQ m) b))∧zb [] d w'):=qI (fun d b h=>zas d (vQ m) (zbA m) b h);have HM:Hid (∀ b,zaa m s b=if xB (vQ m) b=0 then qj (s.rev.getD b [])++s.oth.getD b [] else s.oth.getD b []++qj (s.rev.getD b [])):=qI (fun _=>rfl);have Ys:Hid (jB m s=JS tKey [((List.range n).map (zaa m s)).flatten]):=qI (by unfold jB;rw [hn]);have Yg:Hid (∀ k,k≤n→(((List.range k).map (zaa m s)).flatten).length=64*k):=qI (fun k hk=>imp_flat t r Ws k Ws);have Gn:Hid (∀ k,xB (vQ m) k<2):=qI (fun k=>zab _ _);have Yt:=qI hn;have Yu:=qI Q;have A:=qI (And.intro t r);have an:(n:Int)≤256:=Ws;have ai:(m.length:Int)≤1048576:=Ws;have Jh:=qI U;clear ab hm ag ae ad C P W t r hn Q U;generalize ao:m.length=mn at CO ai;generalize vQ m=md at CO R HM Gn;go_enter func111,ntmps111;go_upto_region 1 with fail;refine yZ Gb.o ?_;go_upto_region 6 with first
  | (go_at_call 141;refine CW.o.mh ?_;rintro e w2 rfl Gd)
  | (go_at_call 162;refine (CO.o _ Gd.o).mono ?_;rintro e B ⟨rfl,E⟩;have Yv:=qI E;clear E)
 obtain⟨W4,Gr⟩:=XE (B.alloc (.cells #[.slice none 0 0] 125));have Mo:Hid (qX B B.heap.size W4 []):=qI (by rw [Gr.o];exact sumsNew B);have Gp:Hid (zb [] G B):=qI (Gd.o.then Yv.o);have ak:=(Gp.o.then Mo.o.kept).cell f0 Wz;clear f0;go_upto_region 7 with fail;rw [← Gr.o];generalize hp:B.heap.size=p at Mo;have HP:=qI hp;clear hp;go_wp2_with fail;go_loopw [8,9,28] (fun _ _ i wr=>∃ k:Nat,i = .int .i64 k∧k≤n∧qX B p wr ((List.range k).map (zaa m s)).flatten) (fun _ _ i _=>n-(intOf i).toNat);case atStart=>exact⟨0,rfl,XB,Mo.o⟩
 case round=>
  obtain⟨k,rfl,hk,af⟩:=hrel;have M:=qI af;clear af ak;rcases Xr k n with z | z
  ·have al:(k:Int)<n:=by omega
   have Mp:=qI al;have Gj:=qI z;have H:Hid (zb [] G wr):=qI (Gp.o.then M.o.kept);have L:k<s.rev.length:=by rw [Yt.o];exact z
   have K:k<s.oth.length:=by rw [Yu.o];exact z
   have Jd:Hid (wr.rangeAt g1 (Y+k*32) (s.rev[k].map bv)):=qI (row32 (Ju.o.kept H.o Wz) A.o.1 k L);have Jj:Hid (wr.rangeAt q (l+k*32) (s.oth[k].map bv)):=qI (row32 (Jv.o.kept H.o Wz) A.o.2 k K);have N:Hid (s.rev[k].length=32):=qI (A.o.1 _ (XX _));have Jw:Hid (s.oth[k].length=32):=qI (A.o.2 _ (XX _));have I:Hid (zaa m s k=if xB md k=0 then qj s.rev[k]++s.oth[k] else s.oth[k]++qj s.rev[k]):=qI (by
    rw [HM.o,List.getD,XN L,List.getD,XN K];rfl)
   have Yh:=qI (ZE (zaa m s) k);have Mq:=qI (Yg.o k Ws);have D:Hid (xz G 88 #[.agg (s.rev[k].map bv).toArray] (.agg ((qj s.rev[k]).map bv).toArray)):=qI (fun d E=>Z3 d _ N.o (Gy.o.k0 E));have Mr:Hid ((qj s.rev[k]).length=32):=qI (yP _);have O:Hid (∀ d,Calls prog 163 #[.agg (md.map bv).toArray,.int .i64 k] d fun e w'=>e = .returned (.int .i64 (xB md k))∧zb [] d w'):=qI (fun d=>R.o d k (XC Jh.o));have Ms:=qI (Gn.o k);have J:=H.o.cell J Wz;generalize qj s.rev[k]=u1 at D I Mr;generalize s.rev[k]=x1 at Jd N D;generalize s.oth[k]=y1 at Jj Jw I;generalize xB md k=sd at O I Ms;clear L K z;go_upto_region 10 with first
    | (refine yy Wk _ rfl (g:=g1) (of:=Y+k*32) Jd.o N.o Wk ?_)
    | (refine zH Wk (.tmp 9) (.tmp 32) Wk (g:=wr.heap.size) (l0:=ku zX 0) (zd rfl) (yp _ _) N.o Wk Wk ?_;intro w4 h4 f;have Jy:=qI h4;have Gl:Hid (zb [] wr w4):=qI (((zb.refl [] wr).alloc _).trans f (by intro i hi;simp at hi;subst hi;exact .inr (XA)));clear h4 f;simp only [Act.put])
   have aj:sd=0∨sd=1:=XC Ms.o;clear J Ms;rcases aj with rfl | rfl
   ·rw [XK rfl] at I;go_upto_region 11 with (go_at_call 163;refine (O.o _).mh ?_;rintro e w5 rfl y);have F:=qI (Gl.o.then y.o);have Mt:=qI (Jy.o.k0 y.o);have Jz:Hid (w5.rangeAt q (l+k*32) (y1.map bv)):=qI (fun j v hv=>F.o.cell (Jj.o j v hv) Wz);have J:=za (o:=1) ((H.o.then F.o).heap Mf.o Wz) rfl;have CU:Hid (∀ d,zb [] w5 d→_):=qI (fun d h=>D.o d ((H.o.then F.o).then h));have CA:Hid (∀ d,zb [] w5 d→Calls prog 87 #[.pointer (some ⟨p,0,none⟩),.agg (u1.map bv).toArray,.agg (y1.map bv).toArray] d fun e w'=>e = .returned (.tuple #[])∧qX B p w' ((List.range (k+1)).map (zaa m s)).flatten):=qI (fun d h=>by
     have h1:=bW (M.o.k0 (F.o.then h)) Mr.o Jw.o (XH Mq.o Jh.o);rw [Yh.o,I.o,← Xv];exact h1)
    refine yG (n:=58) 8 [fI (.pointer (some ⟨p,0,none⟩)),
     fI (.agg (x1.map bv).toArray),
     fI (.agg (u1.map bv).toArray),
     fI (.pointer (some ⟨w.heap.size,1,none⟩)),
     fI (.slice (some ⟨q,l,none⟩) n c2),
     fI (.int .i64 k),
     fI (.pointer (some ⟨q,l+k*32,none⟩)),
     fI (.agg (y1.map bv).toArray)] Wr rfl Wr (fun x=>qB) ?_ ?_
    ·refine⟨?_,?_,?_,?_,?_,?_,?_,?_,trivial⟩ <;> intro x w2 a b hd;·exact zi
     ·change wpList _ _ _ [_] _ _;refine xa Wk (.tmp 9) Wk (Mt.o.k0 a) N.o Wk ?_;exact⟨rfl,_,rfl,rfl,Wd⟩
     ·have d1:x 1=_:=hd 1 Wr;have CX:=CU.o w2 a;go_wp2_with (go_at_call 88;refine CX.mh ?_;rintro e w5 rfl y);exact⟨rfl,y.o⟩
     ·exact zi
     ·have d3:x 3=_:=hd 3 Wr;have y0:=a.cell J Wz;exact zi
     ·exact zi
     ·have d4:x 4=_:=hd 4 Wr;have d5:x 5=_:=hd 5 Wr;have ah:=Mp.o;exact zi
     ·have d6:x 6=_:=hd 6 Wr;change wpList _ _ _ [_] _ _;refine yy Wk _ rfl (g:=q) (of:=l+k*32) (fun j v hv=>a.cell (Jz.o j v hv) Wz) Jw.o d6 ?_;exact⟨rfl,_,rfl,rfl,Wd⟩
    ·intro x w7 a b7 hd u;have d0:x 0=_:=hd 0 Wo;have d2:x 2=_:=hd 2 Wo;have d7:x 7=_:=hd 7 Wo;have Jl:=qI a;clear hd u a;change wpList _ _ _ [_] _ _;go_wp2_with (go_at_call 87;refine (CA.o _ Jl.o).mono ?_;rintro e w8 ⟨rfl,z⟩;have H8:=qI z;clear z);case roundEnd=>exact⟨⟨k+1,by go_num,by have:=Gj.o;omega,H8.o⟩,by have:=Gj.o;simp [intOf];omega⟩
   ·rw [XJ Wo] at I;go_upto_region 12 with (go_at_call 163;refine (O.o _).mh ?_;rintro e w5 rfl y);have F:=qI (Gl.o.then y.o);have Mt:=qI (Jy.o.k0 y.o);have Jz:Hid (w5.rangeAt q (l+k*32) (y1.map bv)):=qI (fun j v hv=>F.o.cell (Jj.o j v hv) Wz);have J:=za (o:=1) ((H.o.then F.o).heap Mf.o Wz) rfl;have CU:Hid (∀ d,zb [] w5 d→_):=qI (fun d h=>D.o d ((H.o.then F.o).then h));have CA:Hid (∀ d,zb [] w5 d→Calls prog 87 #[.pointer (some ⟨p,0,none⟩),.agg (y1.map bv).toArray,.agg (u1.map bv).toArray] d fun e w'=>e = .returned (.tuple #[])∧qX B p w' ((List.range (k+1)).map (zaa m s)).flatten):=qI (fun d h=>by
     have h1:=bW (M.o.k0 (F.o.then h)) Jw.o Mr.o (XH Mq.o Jh.o);rw [Yh.o,I.o,← Xv];exact h1)
    refine yG (n:=58) 8 [fI (.pointer (some ⟨p,0,none⟩)),
     fI (.pointer (some ⟨w.heap.size,1,none⟩)),
     fI (.slice (some ⟨q,l,none⟩) n c2),
     fI (.int .i64 k),
     fI (.pointer (some ⟨q,l+k*32,none⟩)),
     fI (.agg (y1.map bv).toArray),
     fI (.agg (x1.map bv).toArray),
     fI (.agg (u1.map bv).toArray)] Wr rfl Wr (fun x=>qB) ?_ ?_
    ·refine⟨?_,?_,?_,?_,?_,?_,?_,?_,trivial⟩ <;> intro x w2 a b hd;·exact zi
     ·exact zi
     ·have d1:x 1=_:=hd 1 Wr;have y0:=a.cell J Wz;exact zi
     ·exact zi
     ·have d2:x 2=_:=hd 2 Wr;have d3:x 3=_:=hd 3 Wr;have ah:=Mp.o;exact zi
     ·have d4:x 4=_:=hd 4 Wr;change wpList _ _ _ [_] _ _;refine yy Wk _ rfl (g:=q) (of:=l+k*32) (fun j v hv=>a.cell (Jz.o j v hv) Wz) Jw.o d4 ?_;exact⟨rfl,_,rfl,rfl,Wd⟩
     ·change wpList _ _ _ [_] _ _;refine xa Wk (.tmp 9) Wk (Mt.o.k0 a) N.o Wk ?_;exact⟨rfl,_,rfl,rfl,Wd⟩
     ·have d6:x 6=_:=hd 6 Wr;have CX:=CU.o w2 a;go_wp2_with (go_at_call 88;refine CX.mh ?_;rintro e w5 rfl y);exact⟨rfl,y.o⟩
    ·intro x w7 a b7 hd u;have d0:x 0=_:=hd 0 Wo;have d5:x 5=_:=hd 5 Wo;have d7:x 7=_:=hd 7 Wo;have Jl:=qI a;clear hd u a;change wpList _ _ _ [_] _ _;go_wp2_with (go_at_call 87;refine (CA.o _ Jl.o).mono ?_;rintro e w8 ⟨rfl,z⟩;have H8:=qI z;clear z);case roundEnd=>exact⟨⟨k+1,by go_num,by have:=Gj.o;omega,H8.o⟩,by have:=Gj.o;simp [intOf];omega⟩
  ·obtain rfl:k=n:=by omega
   have O:Hid (zG wr 90 #[.pointer (some ⟨p,0,none⟩)] (.agg ((jB m s).map bv).toArray)):=qI (by
    rw [Ys.o];exact Y5 M.o (XH (Yg.o k (XA)) Jh.o) (Gy.o.k0 (Gp.o.then M.o.kept)))
   have Gk:Hid ((jB m s).length=32):=qI (QL _ _);generalize Z:jB m s=sl at O Gk;have Yw:=qI Z;clear Z;have Yx:=qI (Gx.o.k0 (Gp.o.then M.o.kept));go_wp2_with first
    | (go_at_call 90;refine O.o.mono ?_;rintro e w4 ⟨rfl,f⟩;have Gl:=qI f;have Yy:=qI (Yx.o.k0 f);clear f)
    | (refine zH Wk (.tmp 4) (.tmp 57) Wk Yy.o (yp _ _) Gk.o Wk Wk ?_;intro w5 h5 aa;have H5:=qI h5;have y:=qI aa;clear h5 aa)
   have X:=H5.o.var Gk.o;refine bodyPost_ret (v:=.tuple #[.agg (sl.map bv).toArray,.int .i64 0]) (by simp only [results,results111];simp [X,Sem.run_bind,asAddr,Act.put]) rfl ⟨by rw [Yw.o],?_⟩;exact ((Gc.o.then (Gp.o.then M.o.kept)).then Gl.o).trans y.o (by intro i hi;simp at hi;subst hi;exact .inr Ws)
theorem node_any (w:World)(l r:List UInt8)(E:l.length=32)(D:r.length=32)(k:kg w) : zG w 164 #[.agg (l.map bv).toArray,.agg (r.map bv).toArray] (.agg ((vw l r).map bv).toArray):=by
 obtain⟨q,p⟩:=XE (((w.alloc (.cells (l.map bv).toArray 49)).alloc (.cells (r.map bv).toArray 49)).alloc (.cells z32 49));have z:Hid (zb [] w q):=qI (kA3 p.o);have F:Hid (yr q w.heap.size l):=qI (by rw [p.o];exact (((zb.refl [] _).alloc _).alloc _).heap (zd rfl) Wz);have C:Hid (yr q (w.heap.size+1) r):=qI (by rw [p.o];exact ((zb.refl [] _).alloc _).heap (zd Wz) Wz);have M:Hid (yr q (w.heap.size+2) (ku zX 0)):=qI (by rw [p.o];exact zd Wz);have I:Hid (∀ w2,zb [] q w2→∀ f,Slc w2 1 (.slice (some ⟨f,0,none⟩) 2 2) 2 [.slice (some ⟨w.heap.size,0,none⟩) 32 32,.slice (some ⟨w.heap.size+1,0,none⟩) 32 32]→Calls prog 135 #[.string ⟨#[109,101,114,107,108,101,32,110,111,100,101]⟩,.slice (some ⟨f,0,none⟩) 2 2] w2 fun e w'=>e = .returned (.agg ((vw l r).map bv).toArray)∧zb [] w2 w'):=qI (fun w2 j f d=>by
  have s:zm w2 (.slice (some ⟨w.heap.size,0,none⟩) 32 32) l:=⟨Wz,.inr (.inr ⟨_,0,32,by rw [E],Ws,Wo,⟨(F.o.k0 j).range,(F.o.k0 j).lt⟩⟩)⟩;have t:zm w2 (.slice (some ⟨w.heap.size+1,0,none⟩) 32 32) r:=⟨Wz,.inr (.inr ⟨_,0,32,by rw [D],Ws,Wo,⟨(C.o.k0 j).range,(C.o.k0 j).lt⟩⟩)⟩;exact zbl ⟨#[109,101,114,107,108,101,32,110,111,100,101]⟩ w2 (some ⟨f,0,none⟩) 2 [.slice (some ⟨w.heap.size,0,none⟩) 32 32,.slice (some ⟨w.heap.size+1,0,none⟩) 32 32] [l,r] d (zL.cons (R:=zm _) s (zL.cons (R:=zm _) t (zL.nil _))) (fun x A=>by
   simp only [XY,Xi,uC] at A;rcases A with rfl | rfl <;> omega) Wo (Nat.le_of_ble_eq_true rfl) ((k.k0 z.o).k0 j))
 have y:Hid ((vw l r).length=32):=qI (QF l r);clear E D k;go_enter func164,ntmps164;go_upto_region 1 with fail;refine yZ p.o ?_
 refine yG (n:=9) 4 [fI (.slice (some ⟨w.heap.size,0,none⟩) 32 32),
  fI (.slice (some ⟨w.heap.size+1,0,none⟩) 32 32),
  je [.slice (some ⟨w.heap.size,0,none⟩) 32 32,.slice (some ⟨w.heap.size+1,0,none⟩) 32 32] 2 1,
  fI (.agg ((vw l r).map bv).toArray)] Wr rfl Wr (fun x=>qB) ?_ ?_
 ·refine⟨?_,?_,?_,?_,trivial⟩ <;> intro x w2 a b hd;·exact zi
  ·exact zi
  ·have W:x 0=_:=hd 0 Wr;have O:x 1=_:=hd 1 Wr;go_wp2;exact⟨⟨w2.heap.size,rfl,XA,Wz,yE w2 [.slice (some ⟨w.heap.size,0,none⟩) 32 32,.slice (some ⟨w.heap.size+1,0,none⟩) 32 32] 1 2 _ _ rfl rfl Wo⟩,Wd.alloc _⟩
  ·obtain⟨f,U,-,-,d⟩:=hd 2 Wr;have G:=I.o w2 a f d;clear d;go_wp2_with (go_at_call 135;refine G.mh ?_;rintro e w5 rfl J);exact⟨rfl,J.o⟩
 ·intro x P a Q hd h;have K:x 3=_:=hd 3 Wo;have L:=qI a;have H:=qI (M.o.k0 a);clear hd h a;change wpList _ _ _ [_] _ _;refine zH Wk (.tmp 4) (.tmp 8) Wk H.o (yp _ _) y.o Wk K ?_;intro w5 N u;refine wpList_nil ?_;go_wp2_with fail;have m:=N.var y.o;refine bodyPost_ret (v:=.agg ((vw l r).map bv).toArray) (by simp only [results,results164];simp [m,Sem.run_bind,asAddr,Act.put]) rfl ⟨rfl,?_⟩;exact (z.o.then L.o).trans u (by intro i B;simp at B;subst B;exact .inr Ws)
theorem climb_any (hx:x.length=32)(i:Nat)(b:i≤1073741824){way:List (List UInt8)}(I:yU way){c:Nat}(hn:way.length=n)(ae:n≤6)(Z:Slc w 32 (.slice a n c) n (way.flatten.map bv))(E:kg w) : Calls prog 112 #[.agg (x.map bv).toArray,.int .i64 i,.slice a n c] w fun e w'=>((i<2 ^ n∧e = .returned (.tuple #[.agg ((vd x i way).map bv).toArray,.int .i64 0]))∨(¬ i<2 ^ n∧e = .returned (.tuple #[.agg z32,.int .i64 1])))∧zb [] w w':=by
 obtain⟨U,J⟩:=XE ((w.alloc (.cells (x.map bv).toArray 49)).alloc (.cells z32 49));have N:Hid (zb [] w U):=qI (kA2 J.o);have Gh:Hid (yr U w.heap.size x):=qI (by rw [J.o];exact ((zb.refl [] _).alloc _).heap (zd rfl) Wz);have Mg:Hid (yr U (w.heap.size+1) (ku zX 0)):=qI (by rw [J.o];exact zd Wz);have Gk:=qI (Z.k0 N.o);have Da:Hid (∀ g,yt (.slice a n c)=some g→g<w.heap.size):=qI (fun g h=>Z.lt h);have Gy:=qI (E.k0 N.o);have Yj:Hid (0 ∉ [w.heap.size]):=qI (by have:=K9 E;simp;omega);have ah:(i:Int)≤1073741824:=Ws;have af:(n:Int)≤6:=Ws;have G:=qI I;have HN:=qI hn;have X:wrap64 ((2:Int) ^ n)=(2:Int) ^ n:=by have:n=0∨n=1∨n=2∨n=3∨n=4∨n=5∨n=6:=Ws;rcases this with rfl | rfl | rfl | rfl | rfl | rfl | rfl <;> decide +kernel
 have Jq:=qI hx;clear I hn Z E hx;have ab:decide ((6:Int)<(n:Int))=false:=XO Ws;have Db:=N;rcases Xr i (2 ^ n) with hlt | hlt
 rotate_left;·have O:decide ((2:Int) ^ n≤(i:Int))=true:=XT (by exact_mod_cast hlt);go_enter func112,ntmps112;go_upto_region 1 with fail;refine yZ J.o ?_;go_wp2_with (refine zH Wk (.tmp 6) (.tmp 24) Wk (l:=List.replicate 32 0) Mg.o (yp _ _) Wk Wk Wk ?_;intro w5 K f;have H5:=qI K;have p:=qI f;clear K f);have d:=H5.o.var Wk;refine bodyPost_ret (v:=.tuple #[.agg z32,.int .i64 1]) (by simp only [results,results112];simp [d,Sem.run_bind,asAddr,Act.put];rfl) rfl ⟨.inr ⟨Ws,rfl⟩,?_⟩;exact N.o.trans p.o (by intro i b;simp at b;subst b;exact .inr Ws)
 have O:decide ((2:Int) ^ n≤(i:Int))=false:=by
  have h1:(i:Int)<(2:Int) ^ n:=by exact_mod_cast hlt
  exact XO (Int.not_le.2 h1)
 have Gj:=qI hlt;have Dc:=qI b;clear b hlt;go_enter func112,ntmps112;go_upto_region 1 with fail;refine yZ J.o ?_;go_wp2_with fail;go_loopw [1,9,27] (fun iv _ B wr=>∃ (k j:Nat) (y:List UInt8),iv = .int .i64 j∧B = .int .i64 k∧k≤n∧j≤1073741824∧y.length=32∧yr wr w.heap.size y∧vd x i way=vd y j (way.drop k)∧zb [w.heap.size] U wr) (fun _ _ B _=>n-(intOf B).toNat);case atStart=>exact⟨0,i,x,rfl,rfl,XB,Dc.o,Jq.o,Gh.o,rfl,Wd⟩
 case round=>
  obtain⟨k,j,y,rfl,rfl,hk,hj,hy,s,L,P⟩:=hrel;have q:=qI hy;have Q:=qI s;have Yk:=qI L;have D:=qI P;have HJ:=qI hj;have ag:(j:Int)≤1073741824:=Ws;clear hy s L P hj ab O X;rcases Xr k n with hlt | hlt
  ·have ad:(k:Int)<n:=by omega
   obtain⟨g,o,rfl,-,r⟩:=jR Gk.o Ws;have u:k<way.length:=by rw [HN.o];exact hlt
   have Gt:Hid (w.heap.size≠g):=qI (fun e=>by have h1:=Da.o g (QD Ws);omega);have Jd:Hid (wr.rangeAt g (o+k*32) (way[k].map bv)):=qI (row32 (r.kept D.o (by simp;exact fun e=>Gt.o e.symm)) G.o k u);have F:Hid (way[k].length=32):=qI (G.o _ (XX _));have A:Hid (vd x i way=vd (if j%2=0 then vw y way[k] else vw way[k] y) (j/2) (way.drop (k+1))):=qI (by
    rw [Yk.o,X0 u];rfl)
   generalize way[k]=z at Jd F A;have W:=qI hlt;clear u hlt r;go_upto_region 6 with first
    | (refine yy Wk _ rfl (g:=g) (of:=o+k*32) Jd.o F.o Wk ?_)
    | (refine zH Wk (.tmp 9) (.tmp 30) Wk (g:=wr.heap.size) (l0:=ku zX 0) (zd rfl) (yp _ _) F.o Wk Wk ?_;intro R h4 M;have Yl:=qI h4;have t:Hid (zb [] wr R):=qI (((zb.refl [] wr).alloc _).trans M (by intro i b;simp at b;subst b;exact .inr (XA)));clear h4 M;simp only [Act.put])
   have Y:j%2=0∨j%2=1:=Ws;rcases Y with h2 | h2
   ·rw [XK h2] at A;have aa:(j:Int)%2=0:=Ws;clear h2;have H:Hid (zG R 164 #[.agg (y.map bv).toArray,.agg (z.map bv).toArray] (.agg ((vw y z).map bv).toArray)):=qI (node_any R y z q.o F.o ((Gy.o.keptX D.o Yj.o).k0 t.o));have C:Hid ((vw y z).length=32):=qI (QF _ _);generalize vw y z=nd at H C A;go_wp2_with first
     | (refine xa Wk (.tmp 3) Wk (Q.o.k0 t.o) q.o Wk ?_)
     | (refine xa Wk (.tmp 9) Wk Yl.o F.o Wk ?_)
     | (go_at_call 164;refine H.o.mh ?_;rintro e w5 rfl p)
     | (refine zH Wk (.tmp 3) (.tmp 36) Wk (Q.o.k0 (t.o.then p.o)) q.o C.o Wk Wk ?_;intro w6 h6 m;have H6:=qI h6;have Mb:=qI m;clear h6 m)
    case roundEnd=>exact⟨⟨k+1,j/2,nd,by go_num,by go_num,by have:=W.o;omega,by have:=HJ.o;omega,C.o,H6.o,A.o,(D.o.then (t.o.then p.o)).trans' Mb.o⟩,by have:=W.o;simp [intOf];omega⟩
   ·rw [XJ Ws] at A;have aa:(j:Int)%2=1:=Ws;clear h2;have H:Hid (zG R 164 #[.agg (z.map bv).toArray,.agg (y.map bv).toArray] (.agg ((vw z y).map bv).toArray)):=qI (node_any R z y F.o q.o ((Gy.o.keptX D.o Yj.o).k0 t.o));have C:Hid ((vw z y).length=32):=qI (QF _ _);generalize vw z y=nd at H C A;go_wp2_with first
     | (refine xa Wk (.tmp 3) Wk (Q.o.k0 t.o) q.o Wk ?_)
     | (refine xa Wk (.tmp 9) Wk Yl.o F.o Wk ?_)
     | (go_at_call 164;refine H.o.mh ?_;rintro e w5 rfl p)
     | (refine zH Wk (.tmp 3) (.tmp 39) Wk (Q.o.k0 (t.o.then p.o)) q.o C.o Wk Wk ?_;intro w6 h6 m;have H6:=qI h6;have Mb:=qI m;clear h6 m)
    case roundEnd=>exact⟨⟨k+1,j/2,nd,by go_num,by go_num,by have:=W.o;omega,by have:=HJ.o;omega,C.o,H6.o,A.o,(D.o.then (t.o.then p.o)).trans' Mb.o⟩,by have:=W.o;simp [intOf];omega⟩
  ·obtain rfl:k=n:=by omega
   have Dd:Hid (vd x i way=y):=qI (by rw [Yk.o,← HN.o,uV];rfl);have De:=qI (Mg.o.kept D.o Wz);go_wp2_with first
    | (refine xa Wk (.tmp 3) Wk Q.o q.o Wk ?_)
    | (refine zH Wk (.tmp 6) (.tmp 43) Wk De.o (yp _ _) q.o Wk Wk ?_;intro w5 K f;have H5:=qI K;have p:=qI f;clear K f)
   have d:=H5.o.var q.o;refine bodyPost_ret (v:=.tuple #[.agg (y.map bv).toArray,.int .i64 0]) (by simp only [results,results112];simp [d,Sem.run_bind,asAddr,Act.put]) rfl ⟨.inl ⟨Gj.o,by rw [Dd.o]⟩,?_⟩;exact (N.o.trans D.o (by intro i b;simp at b;subst b;exact .inr (XA))).trans p.o (by intro i b;simp at b;subst b;exact .inr Ws)
theorem xor_zero_iff (a b:Nat):a ^^^ b=0↔a=b:=by
 refine⟨fun h=>?_,fun h=>by rw [h,Nat.xor_self]⟩;have d:(a ^^^ b) ^^^ b=a:=by rw [Nat.xor_assoc,Nat.xor_self,Nat.xor_zero]
 rw [h,Nat.zero_xor] at d;exact d.symm
theorem take_eq_snoc (a:k<l.length)(hm:k<m.length):l.take (k+1)=m.take (k+1)↔l.take k=m.take k∧l[k]=m[k]:=by
 rw [XZ a,XZ hm];constructor;·intro h;have h2:=List.append_inj' h rfl;exact⟨h2.1,by simpa using h2.2⟩
 ·rintro ⟨b,h2⟩;rw [b,h2]
theorem octSame_any {y A R gb z Q:Nat}(L:l.length=32)(hm:m.length=32)(F:w.rangeAt y A (l.map bv))(C:w.rangeAt gb z (m.map bv)) : zG w 113 #[.slice (some ⟨y,A,none⟩) 32 R,.slice (some ⟨gb,z,none⟩) 32 Q] (.bool (decide (l=m))):=by
 have M:=qI L;have D:=qI hm;have O:=qI F;have U:=qI C;clear L hm F C;go_enter func113,ntmps113;go_wp2_with fail;go_loopw [5,6,14] (fun N _ i wr=>∃ k o:Nat,N = .int .u8 o∧i = .int .i64 k∧k≤32∧o<256∧(o=0↔l.take k=m.take k)∧zb [] w wr) (fun _ _ i _=>32-(intOf i).toNat);case atStart=>exact⟨0,0,rfl,rfl,XB,Wo,Wz,Wd⟩
 case round=>
  obtain⟨k,o,rfl,rfl,X,H,r,j⟩:=hrel;have E:=qI H;have K:=qI r;have v:=qI j;clear H r j;rcases Xr k 32 with h32 | h32
  ·have W:(k:Int)<32:=by omega
   have b:k<l.length:=by rw [M.o];exact h32
   have f:k<m.length:=by rw [D.o];exact h32
   have c0:wr.cell? ⟨y,A+k,none⟩=some (.int .u8 l[k].toNat):=v.o.cell (O.o k _ (by rw [Xs,XN b];rfl)) Wz;have c1:wr.cell? ⟨gb,z+k,none⟩=some (.int .u8 m[k].toNat):=v.o.cell (U.o k _ (by rw [Xs,XN f];rfl)) Wz;have G:=qI (take_eq_snoc b f);have B:=u8_xor_nat l[k].toNat m[k].toNat (uk _) (uk _);have d:l[k].toNat ^^^ m[k].toNat<256:=Nat.xor_lt_two_pow (n:=8) (uk _) (uk _);have a:=u8_or_nat o (l[k].toNat ^^^ m[k].toNat) E.o d;have h:Hid (o ||| (l[k].toNat ^^^ m[k].toNat)<256):=qI (Nat.or_lt_two_pow (n:=8) E.o d);have u:Hid (o ||| (l[k].toNat ^^^ m[k].toNat)=0↔l.take (k+1)=m.take (k+1)):=qI (by
    rw [Nat.or_eq_zero_iff,xor_zero_iff,UInt8.toNat_inj,G.o,K.o])
   have I:=qI h32;generalize l[k].toNat=p at c0 B a h u;generalize m[k].toNat=q at c1 B a h u;generalize p ^^^ q=s at B a h u;generalize o ||| s=t at a h u
   clear d h32 G;clear b f;go_wp2_with fail;go_quiet (fail);go_wp2;case roundEnd=>exact⟨⟨k+1,t,by go_num,by go_num,by have:=I.o;omega,h.o,u.o,v.o.drewN _⟩,by have:=I.o;simp [intOf];omega⟩
  ·obtain rfl:k=32:=by omega
   have P:Hid (decide (l=m)=decide (o=0)):=qI (by
    have x:=K.o;rw [Xl (by rw [M.o];omega),Xl (by rw [D.o];omega)] at x;by_cases h2:o=0;·rw [XT h2,XT (x.1 h2)]
    ·rw [XO h2,XO (fun e=>h2 (x.2 e))])
   go_wp2;go_ret;refine⟨?_,v.o⟩;rw [P.o];by_cases J:o=0;·subst J;simp
   ·have x:(o:Int)≠0:=by omega
    simp [J]
structure vV (w:World)(p:Nat)(l:List UInt8)(bad:Bool):Prop where
 val:∃ a c,w.heap[p]? = some (.cells #[.slice a l.length c,.bool bad] 199 (0,0))∧zm w (.slice a l.length c) l∧∀ g,yt (.slice a l.length c)=some g→g≠p
theorem vV.k0 {w w':World}{p:Nat}{l:List UInt8}{bad:Bool}(h:vV w p l bad)(k:zb [] w w'):vV w' p l bad:=by
 obtain⟨a,c,b,h2,h3⟩:=h.val;exact⟨a,c,k.heap b Wz,h2.k0 k,h3⟩
theorem vV.lt {bad:Bool}(h:vV w p l bad):p<w.heap.size:=by
 obtain⟨a,c,b,-,-⟩:=h.val;exact lt_of_block b
theorem from_any {c:Nat}(k:zm w (.slice a l.length c) l)(h:l.length≤lim) : Calls prog 105 #[.slice a l.length c] w fun e w'=>(∃ p,w.heap.size≤p∧e = .returned (.pointer (some ⟨p,0,none⟩))∧vV w' p l false)∧zb [] w w':=by
 have m:=qI (bg _ _ w k h);clear k h;go_enter func105,ntmps105;generalize r:l.length=n at m;go_wp2_with (go_at_call 45;refine m.o.mono ?_;rintro e w2 ⟨v,rfl,b,f⟩;obtain⟨a2,c2,rfl,-,-⟩:=b.1.form;have i:=qI b;have j:=qI f;clear b f);go_ret;have d:=(zb.refl [] w2).alloc (.cells #[.slice a2 n c2,.bool false] 199);subst r;refine⟨⟨w2.heap.size,j.o.size,rfl,⟨a2,c2,zd rfl,i.o.1.k0 d,fun g q=>?_⟩⟩,j.o.then d⟩;have:=i.o.1.lt q;omega
theorem Km {bad:Bool}(h:vV w p l bad) : Calls prog 158 #[.pointer (some ⟨p,0,none⟩)] w fun e w'=>e = .returned (.int .i64 l.length)∧w=w':=by
 obtain⟨a,c,b,-,-⟩:=h.val;have c0:=za (o:=0) b rfl;clear h b;go_enter func158,ntmps158;go_wp2;go_ret;exact⟨rfl,rfl⟩
theorem rdBad_any {bad:Bool}(h:vV w p l bad) : Calls prog 160 #[.pointer (some ⟨p,0,none⟩)] w fun e w'=>e = .returned (.bool bad)∧w=w':=by
 obtain⟨a,c,b,-,-⟩:=h.val;have c1:=za (o:=1) b rfl;clear h b;go_enter func160,ntmps160;go_wp2;go_ret;exact⟨rfl,rfl⟩
theorem zaJ {bad:Bool}(h:vV w p l bad) : Calls prog 159 #[.pointer (some ⟨p,0,none⟩)] w fun e w'=>e = .returned (.tuple #[])∧vV w' p [] true∧zb [p] w w':=by
 obtain⟨a,c,b,-,-⟩:=h.val;have c0:=za (o:=0) b rfl;have c1:=za (o:=1) b rfl;have f:=fun o=>zh (o:=o) b
 have j:=qI b;clear h b;go_enter func159,ntmps159;go_wp2_with fail;go_end0;have h2:=ze (i:=0) (v:=.slice none 0 0) (d:=#[.slice none 0 0,.bool bad]) j.o rfl;have h3:=ze (i:=1) (v:=.bool true) (d:=#[.slice none 0 0,.bool true]) h2 rfl;exact⟨rfl,⟨none,0,h3,xt _ _,fun g k=>by simp [yt] at k⟩,((zb.refl [p] w).setCell (.inl Wz) _).setCell (.inl Wz) _⟩
theorem rdDone_any {bad:Bool}(h:vV w p l bad) : Calls prog 108 #[.pointer (some ⟨p,0,none⟩)] w fun e w'=>e = .returned (.int .i64 (if bad=false∧l=[] then 0 else 11))∧w=w':=by
 have i:=qI (Km h);have b:=qI (rdBad_any h);have f:Hid (l=[]↔l.length=0):=qI (by rw [List.length_eq_zero_iff]);generalize l.length=n at i f;clear h;generalize hd:(if bad=false∧l=[] then (0:Int) else 11)=D;have d:=qI hd;clear hd;cases bad with
 | true=>go_enter func108,ntmps108;go_wp2_with (go_at_call 160;refine b.o.mono ?_;rintro e w' ⟨rfl,rfl⟩);go_ret;exact⟨by rw [← d.o];simp,rfl⟩
 | false=>
  by_cases j:n=0
  ·have a:l=[]:=f.o.2 j;subst j;go_enter func108,ntmps108;go_wp2_with first
    | (go_at_call 160;refine b.o.mono ?_;rintro e w' ⟨rfl,rfl⟩)
    | (go_at_call 158;refine i.o.mono ?_;rintro e w' ⟨rfl,rfl⟩)
   go_ret;exact⟨by rw [← d.o];simp [a],rfl⟩
  ·have a:¬ l=[]:=fun e=>j (f.o.1 e);have k:(0:Int)<n:=Ws;go_enter func108,ntmps108;go_wp2_with first
    | (go_at_call 160;refine b.o.mono ?_;rintro e w' ⟨rfl,rfl⟩)
    | (go_at_call 158;refine i.o.mono ?_;rintro e w' ⟨rfl,rfl⟩)
   go_ret;exact⟨by rw [← d.o];simp [a],rfl⟩
def rdB (n:Nat)(l:List UInt8)(bad:Bool):List UInt8×List UInt8×Bool:=if n≤l.length∧bad=false then (l.take n,l.drop n,false) else ([],[],true)
theorem zm.tail2 {c:Nat}(h:zm w (.slice a l.length c) l)(k:Nat)(i:k≤l.length)(hc:c≠k):zm w (.slice (a.map fun x=>x.add k) (l.length-k) (c-k)) (l.drop k)∧∀ g,yt (.slice (a.map fun x=>x.add k) (l.length-k) (c-k))=some g→yt (.slice a l.length c)=some g:=by
 have b:=h.tail k i;rw [XJ hc] at b;rcases VD (l.length - k) with h0 | h0
 ·refine⟨?_,fun g d=>by rw [h0] at d;simp [yt] at d⟩;have h2:=b.1;unfold zm at h2 ⊢;rw [XW,h0] at h2 ⊢;have hm:c-k≤maxLen:=by obtain⟨f,m,h3,-,j⟩:=h2.form;simp only [XU] at h3;omega
  refine⟨h2.1,?_⟩;cases a with
  | none=>
   rcases h2.2 with h3 | ⟨-,f,cap,h3,-⟩ | ⟨g,o,cap,h3,-⟩;·exact .inl h3
   ·simp at h3
   ·simp at h3
  | some x=>exact .inr (.inl ⟨rfl,_,_,rfl,hm⟩)
 ·obtain⟨g,o,rfl,-,-⟩:=jR h Ws;have e:(some (⟨g,o,none⟩:Addr)).map (fun x=>x.add k)=(some (⟨g,o,none⟩:Addr)).map fun x=>⟨x.block,x.off+k,none⟩:=by simp [Zo]
  rw [e];exact b
theorem rdB_end {w2:World}{c f:Nat}{d:Option Addr}{c2:Nat}(q:w.heap[p]? = some (.cells #[.slice a l.length c,.bool false] 199 (0,0)))(r:zm w (.slice d (l.length-n) f) (l.drop n))(j:∀ g,yt (.slice d (l.length-n) f)=some g→g≠p)(i:qw w w2 (.slice a2 n c2) (l.take n))(m:zb [] w w2) : zm (w2.setCell ⟨p,0,none⟩ (.slice d (l.length-n) f)) (.slice a2 n c2) (l.take n)∧(∀ g,yt (.slice a2 n c2)=some g→w.heap.size≤g)∧vV (w2.setCell ⟨p,0,none⟩ (.slice d (l.length-n) f)) p (l.drop n) false∧zb [p] w (w2.setCell ⟨p,0,none⟩ (.slice d (l.length-n) f)):=by
 have b:zb [p] w2 (w2.setCell ⟨p,0,none⟩ (.slice d (l.length-n) f)):=Wd.setCell (.inl Wz) _;have s:=lt_of_block q;have e:(l.drop n).length=l.length-n:=XW;refine⟨i.1.kept b (fun g j k=>?_),fun g j=>(i.2 g j).1,⟨d,f,?_,?_,?_⟩,(m.mono Wz).trans' b⟩;·have:=(i.2 g j).1;simp at k;omega
 ·rw [e];exact ze (m.heap q Wz) rfl
 ·rw [e];exact (r.k0 m).kept b (fun g h k=>by simp at k;exact j g h k)
 ·intro g h;rw [e] at h;exact j g h
theorem YV {bad:Bool}(h:vV w p l bad)(n:Nat)(hn:n≤1000000)(y:l.length≤lim) : Calls prog 107 #[.pointer (some ⟨p,0,none⟩),.int .i64 n] w fun e w'=>(∃ a c,e = .returned (.slice a (rdB n l bad).1.length c)∧zm w' (.slice a (rdB n l bad).1.length c) (rdB n l bad).1∧(∀ g,yt (.slice a (rdB n l bad).1.length c)=some g→w.heap.size≤g))∧vV w' p (rdB n l bad).2.1 (rdB n l bad).2.2∧zb [p] w w':=by
 have t:=qI (Km h);have K:=qI (rdBad_any h);have G:=qI (zaJ h);obtain⟨a,c,r,h2,h3⟩:=h.val;have W:(n:Int)≤1000000:=Ws;by_cases j:n≤l.length∧bad=false
 ·obtain⟨i,rfl⟩:=j;have D:Hid (rdB n l false=(l.take n,l.drop n,false)):=qI (by unfold rdB;rw [XK ⟨i,rfl⟩]);have z:Hid ((l.take n).length=n):=qI (by rw [Xe];omega);have P:Hid (Calls prog 45 #[.slice a n c] w fun e w'=>∃ v',e = .returned v'∧qw w w' v' (l.take n)∧zb [] w w'):=qI (bg _ _ w (h2.head n i) (XC z.o));have O:=h2.capL;have f:(n:Int)≤l.length:=Ws;have Q:=qI r;have c0:=za (o:=0) r rfl;have R:(n:Int)≤(c:Int):=Ws;have U:(l.length:Int)≤(c:Int):=Ws;by_cases m:c=n
  ·obtain⟨x,u⟩:=h2.tail n i;rw [XK m] at x u;have N:=qI (fun w2 a2 c2 b H=>rdB_end (w2:=w2) (a2:=a2) (c2:=c2) r x (fun g h=>h3 g (u g h)) b H);have E:=m.symm;clear h r h2 h3 x u m;subst E;go_enter func107,ntmps107;go_wp2_with first
    | (go_at_call 158;refine t.o.mono ?_;rintro e w' ⟨rfl,rfl⟩)
    | (go_at_call 160;refine K.o.mono ?_;rintro e w' ⟨rfl,rfl⟩)
    | (go_at_call 45;refine P.o.mono ?_;rintro e w2 ⟨v,rfl,b,d⟩;obtain⟨a2,c2,rfl,-,-⟩:=b.1.form;rw [z.o] at b ⊢;have A:=qI (d.heap Q.o Wz);have Z:=za (o:=0) A.o rfl;have X:=zh (o:=0) A.o;have F:=qI b;have s:=qI d;clear b d)
   go_ret;have q:=N.o _ _ _ F.o s.o;have Y:l.length-n=0:=Ws;rw [Y,VN] at q;rw [D.o];dsimp only;rw [z.o];exact⟨⟨_,_,rfl,q.1,q.2.1⟩,q.2.2⟩
  ·obtain⟨x,u⟩:=h2.tail2 n i m;have N:=qI (fun w2 a2 c2 b H=>rdB_end (w2:=w2) (a2:=a2) (c2:=c2) r x (fun g h=>h3 g (u g h)) b H);clear h r h2 h3 x u;go_enter func107,ntmps107;go_wp2_with first
    | (go_at_call 158;refine t.o.mono ?_;rintro e w' ⟨rfl,rfl⟩)
    | (go_at_call 160;refine K.o.mono ?_;rintro e w' ⟨rfl,rfl⟩)
    | (go_at_call 45;refine P.o.mono ?_;rintro e w2 ⟨v,rfl,b,d⟩;obtain⟨a2,c2,rfl,-,-⟩:=b.1.form;rw [z.o] at b ⊢;have A:=qI (d.heap Q.o Wz);have Z:=za (o:=0) A.o rfl;have X:=zh (o:=0) A.o;have F:=qI b;have s:=qI d;clear b d)
   go_ret;have q:=N.o _ _ _ F.o s.o;rw [D.o];dsimp only;rw [z.o];exact⟨⟨_,_,rfl,q.1,q.2.1⟩,q.2.2⟩
 ·have D:Hid (rdB n l bad=([],[],true)):=qI (by unfold rdB;rw [XJ j]);have C:Hid (Calls prog 159 #[.pointer (some ⟨p,0,none⟩)] w fun e w'=>e = .returned (.tuple #[])∧vV w' p [] true∧zb [p] w w'):=G;by_cases i:n≤l.length
  ·have J:bad=true:=by
    cases bad with
    | true=>rfl
    | false=>exact absurd ⟨i,rfl⟩ j
   subst J;have f:(n:Int)≤l.length:=Ws;clear r h2 h3 h j G;generalize l.length=L at t f y;go_enter func107,ntmps107;go_wp2_with first
    | (go_at_call 158;refine t.o.mono ?_;rintro e w' ⟨rfl,rfl⟩)
    | (go_at_call 160;refine K.o.mono ?_;rintro e w' ⟨rfl,rfl⟩)
    | (go_at_call 159;refine C.o.mono ?_;rintro e w2 ⟨rfl,k,d⟩;have I:=qI k;have s:=qI d;clear k d)
   go_ret;rw [D.o];exact⟨⟨none,0,rfl,xt _ _,fun g M=>by simp [yt] at M⟩,I.o,s.o⟩
  ·have f:¬ ((n:Int)≤l.length):=by omega
   have B:(l.length:Int)<n:=Ws;clear r h2 h3 h j G;generalize l.length=L at t f B y;go_enter func107,ntmps107;go_wp2_with first
    | (go_at_call 158;refine t.o.mono ?_;rintro e w' ⟨rfl,rfl⟩)
    | (go_at_call 159;refine C.o.mono ?_;rintro e w2 ⟨rfl,k,d⟩;have I:=qI k;have s:=qI d;clear k d)
   go_ret;rw [D.o];exact⟨⟨none,0,rfl,xt _ _,fun g M=>by simp [yt] at M⟩,I.o,s.o⟩
theorem numF_lt:∀ (l:List UInt8) (n:Nat),l.foldl (fun n c=>n*256+c.toNat) n<(n+1)*256 ^ l.length
 | [],n=>by simp
 | c::t,n=>by have h1:=numF_lt t (n*256+c.toNat);have h2:=uk c;rw [List.foldl_cons,XP,Nat.pow_succ,Nat.mul_comm (256 ^ t.length) 256,← Nat.mul_assoc];exact uT h1 (uY _ Ws)
theorem numB_lt (l:List UInt8):Y3 l<256 ^ l.length:=by
 have h:=numF_lt l 0;rw [Xd,Nat.one_mul] at h;exact h
theorem or_byte (n c:Nat)(d:n<16777216)(hc:c<256):bits .or .i64 ((n:Int)*256) (c:Int)=((n*256+c:Nat):Int):=by
 rw [bits_join .i64 32 Wo (fun n b a=>by rw [IntKind.wrap_i64];omega) 8 _ _ Ws Ws Ws Ws Ws Ws];omega
def rdN (l:List UInt8):Nat×List UInt8×Bool:=if 4≤l.length then (Y3 (l.take 4),l.drop 4,false) else (0,[],true)
theorem rdInt_any (h:vV w p l false)(d:l.length≤lim) : Calls prog 106 #[.pointer (some ⟨p,0,none⟩),.int .i64 4] w fun e w'=>e = .returned (.int .i64 (rdN l).1)∧vV w' p (rdN l).2.1 (rdN l).2.2∧zb [p] w w':=by
 have B:=qI (Km h);have I:=qI (zaJ h);have F:=qI (YV h 4 Wo d);have t:l.length≤140737488351232:=d;rcases Xr l.length 4 with h4 | h4
 ·have H:Hid (rdN l=(0,[],true)):=qI (by unfold rdN;rw [XJ Ws]);have r:(l.length:Int)<4:=Ws;clear h d F h4;generalize l.length=L at B r t;go_enter func106,ntmps106;go_wp2_with first
   | (go_at_call 158;refine B.o.mono ?_;rintro e w' ⟨rfl,rfl⟩)
   | (go_at_call 159;refine I.o.mono ?_;rintro e w2 ⟨rfl,a,b⟩;have E:=qI a;have D:=qI b;clear a b)
  go_ret;rw [H.o];exact⟨rfl,E.o,D.o⟩
 ·have H:Hid (rdN l=(Y3 (l.take 4),l.drop 4,false)):=qI (by unfold rdN;rw [XK Ws]);have K:rdB 4 l false=(l.take 4,l.drop 4,false):=by unfold rdB;rw [XK ⟨h4,rfl⟩]
  have A:Hid ((l.take 4).length=4):=qI (by rw [Xe];omega);rw [K] at F;have r:(4:Int)≤(l.length:Int):=Ws;clear h d h4 K I;generalize P:l.length=L at B r t;clear P;go_enter func106,ntmps106;go_wp2_with first
   | (go_at_call 158;refine B.o.mono ?_;rintro e w' ⟨rfl,rfl⟩)
   | (go_at_call 107;refine F.o.mono ?_;rintro e w2 ⟨⟨a2,c2,rfl,f,-⟩,a,b⟩;dsimp only at f a ⊢;rw [A.o] at f ⊢;have N:=qI f;have E:=qI a;have D:=qI b;clear f a b)
  go_loopw [5,7,39] (fun R _ i wr=>∃ k:Nat,R = .int .i64 (Y3 ((l.take 4).take k))∧i = .int .i64 k∧k≤4∧wr=w2) (fun _ _ i _=>4-(intOf i).toNat);case atStart=>exact⟨0,rfl,rfl,XB,rfl⟩
  case round=>
   obtain⟨k,rfl,rfl,X,rfl⟩:=hrel;rcases Xr k 4 with h4 | h4
   ·have W:(k:Int)<4:=by omega
    have q:k<(l.take 4).length:=by rw [A.o];exact h4
    obtain⟨g,o,rfl,Q,m⟩:=jR (size:=1) (n:=4) (by have C:=N.o;unfold zm at C;rw [A.o] at C;exact C) Wo;have c0:=m.at (j:=k) (by rw [Xb];exact q);rw [uJ] at c0;have G:Hid (Y3 ((l.take 4).take (k+1))=Y3 ((l.take 4).take k)*256+(l.take 4)[k].toNat):=qI (by
     rw [XZ q,numB_snoc])
    have v:Y3 ((l.take 4).take k)<16777216:=by have O:=numB_lt ((l.take 4).take k);rw [Xe,Nat.min_eq_left Ws] at O;have h2:256 ^ k≤256 ^ 3:=Nat.pow_le_pow_right Wo Ws;have h3:(256:Nat) ^ 3=16777216:=Wo;omega
    have s:=uk (l.take 4)[k];have z:=or_byte _ _ v s;unfold bv at c0;have J:=qI h4;generalize (l.take 4)[k].toNat=x at c0 G s z;generalize Y3 ((l.take 4).take k)=y at G v z;clear q m h4;go_wp2;case roundEnd=>exact⟨⟨k+1,by rw [G.o];go_num,by go_num,by have:=J.o;omega,trivial⟩,by have:=J.o;simp [intOf];omega⟩
   ·obtain rfl:k=4:=by omega
    have U:Hid ((l.take 4).take 4=l.take 4):=qI (Xl (by rw [A.o];decide));rw [U.o];generalize u:Y3 (l.take 4)=nb;have M:=qI u;clear u;go_wp2;go_ret;rw [H.o];exact⟨by rw [M.o];rfl,E.o,D.o⟩
attribute [local go_sem] Oper.semAt_some
def b9 (N k:Nat):List (Fin N):=(List.finRange N).take k
theorem firsts_len (h:k≤N):(b9 N k).length=k:=by simp [b9];omega
theorem firsts_succ (h:k<N):b9 N (k+1)=b9 N k++[⟨k,h⟩]:=by
 unfold b9;rw [XZ (by simpa using h),List.getElem_finRange];rfl
theorem firsts_all (N:Nat):b9 N N=List.finRange N:=by unfold b9;rw [Xl Wz]
def KpB (Bs Bn:Nat)(W W':World):Prop:=W'.heap[Bs]? = W.heap[Bs]? ∧ W'.heap[Bn]? = W.heap[Bn]?
theorem KpB.c0 (h:KpB Bs Bn W W'):W'.cell? ⟨Bs,0,none⟩=W.cell? ⟨Bs,0,none⟩:=World.cell?_of_block h.1
theorem KpB.c1 (h:KpB Bs Bn W W'):W'.cell? ⟨Bn,0,none⟩=W.cell? ⟨Bn,0,none⟩:=World.cell?_of_block h.2
theorem chunkB_in (n l Bs Bn N z:Nat)(hn:1≤n)(hz:1≤z)(ae:z≤64)(hN:N≤256)(a:Option Addr)(b off cap:Nat)(X:0<N→a=some ⟨b,off,none⟩)(s:z*N≤cap)(m:cap≤maxLen)(J E:List (Fin N)→World→Prop)(D:∀ pre W q,J pre W→J pre (World.drewN W q))(K:∀ pre x W,J pre W→pre.length<N→YieldAt Fence.wide (n-1) prog l #[.slice (some ⟨b,off+z*x.val,none⟩) z z] W fun e W'=> (e = .returned (.bool true)∧J (pre++[x]) W'∧KpB Bs Bn W W')∨(e = .returned (.bool false)∧E (pre++[x]) W'))(W:World)(B:W.cell? ⟨Bs,0,none⟩=some (.slice a (z*N) cap))(F:W.cell? ⟨Bn,0,none⟩=some (.int .i64 z))(h0:J [] W) : CallsIn Fence.wide n prog 161 #[.func (.yield l) #[] #[],.pointer (some ⟨Bs,0,none⟩),.pointer (some ⟨Bn,0,none⟩)] W fun e W'=>(∃ v,e = .returned v)∧((∃ ys,ys=List.finRange N∧J ys W')∨(∃ pre,True∧E pre W')):=by
 refine callsIn_of_wp func161 rfl trivial ?_ rfl;simp only [ntmps161,X2,XP,Xo,Nat.reduceAdd,Nat.reduceSub,Array.replicate_succ,Array.replicate_zero,List.push_toArray,List.append_toArray,X8,uU]
 gi_wp2
 gi_loopw [4,5] (fun i _ wr=>∃ k:Nat,k≤N∧i = .int .i64 (z*k:Nat)∧J (b9 N k) wr∧wr.cell? ⟨Bs,0,none⟩=some (.slice a (z*N) cap)∧wr.cell? ⟨Bn,0,none⟩=some (.int .i64 z))
  (fun i _ _=>z*N-(intOf i).toNat)
 case atStart=>exact⟨0,XB,Wz,h0,B,F⟩
 case round=>
  obtain⟨k,u,rfl,f,c0,c1⟩:=hrel;have j:z*k+(if k<N then z else 0)≤z*N∧(k=N→z*k=z*N):=by
   refine⟨?_,fun e=>by rw [e]⟩;split;·rename_i h;have r:z*(k+1)≤z*N:=ug z h;rw [Nat.mul_add,Nat.mul_one] at r;exact r
   ·have r:z*k≤z*N:=ug z u;omega
  by_cases d:k<N
  ·have O:=qI K;rw [XK d] at j;have R:=qI d;have w:=X Ws;subst w;have H:Hid (z*(k+1)=z*k+z):=qI (by rw [Nat.mul_add,Nat.mul_one]);have Dj:=qI f;have P:=qI c0;have M:Hid (∀ q,YieldAt Fence.wide (n-1) prog l #[.slice (some ⟨b,off+z*k,none⟩) z z] (World.drewN wr q) fun e W'=>(e = .returned (.bool true)∧J (b9 N (k+1)) W'∧KpB Bs Bn (World.drewN wr q) W')∨(e = .returned (.bool false)∧E (b9 N (k+1)) W')):=qI (fun q=>by
    have r:=O.o _ ⟨k,d⟩ _ (D _ _ q f) (by rw [firsts_len u];exact d);rw [← firsts_succ d] at r;exact r)
   generalize A:z*k=p at j H M;generalize C:z*N=L at c0 j s;have Q:=qI C;have Mp:=qI u;clear f d u A K O;have af:(p:Int)+(z:Int)≤(L:Int):=Ws;have ad:(L:Int)≤(cap:Int):=Ws;have Z:¬ cap=p:=Ws;have Y:(1:Int)≤(z:Int):=Ws;have ab:(z:Int)≤64:=Ws;have aa:(cap:Int)≤9223372036854775807:=by have:=m;simp only [maxLen] at this;omega
   have G:min (z:Int) ((L-p:Nat):Int)=(z:Int):=Ws;clear j
   gi_wp2
   refine wpIn_wide.2 ?_;go_quiet (fail);obtain⟨fn,tmps,t,I,hy,U⟩:=M.o nq
   gi_wp2
   refine U.mono ?_;rintro e W3 (⟨rfl,hJ3,hk3⟩ | ⟨rfl,hJx3⟩)
   ·have y:=hk3.c1.trans (show (World.drewN wr nq).cell? ⟨Bn,0,none⟩=_ from c1);have Mw:=qI (hk3.c0.trans (show (World.drewN wr nq).cell? ⟨Bs,0,none⟩=_ from P.o))
    gi_wp2
    go_roundw;case rel=>exact⟨k+1,by have:=R.o;omega,by rw [H.o];go_num,hJ3,by rw [← Q.o];exact Mw.o,y⟩
    case measure=>simp [intOf];omega
   ·gi_wp2
    refine bodyPost_ret (results_none rfl _ _ _) rfl ?_;exact⟨⟨_,rfl⟩,.inr ⟨_,trivial,hJx3⟩⟩
  ·obtain rfl:k=N:=by omega
   rw [firsts_all] at f;generalize z*k=p at c0 j
   gi_wp2
   go_end0;exact⟨⟨_,rfl⟩,.inl f⟩
theorem grown_drewN (W:World)(q:Nat):W.grownBy (World.drewN W q) none:=⟨rfl,rfl,rfl,XA,fun _ _ _=>rfl⟩
theorem JF (n Bs Bn N z:Nat)(C:1≤n)(y:1≤z)(k:z≤64)(v:N≤256)(a:Option Addr)(b off cap:Nat)(u:0<N→a=some ⟨b,off,none⟩)(i:z*N≤cap)(d:cap≤maxLen)(w:World)(f:w.cell? ⟨Bs,0,none⟩=some (.slice a (z*N) cap))(j:w.cell? ⟨Bn,0,none⟩=some (.int .i64 z)) : SeqStopsK Fence.wide n prog 161 #[.pointer (some ⟨Bs,0,none⟩),.pointer (some ⟨Bn,0,none⟩)] (fun x:Fin N=>#[.slice (some ⟨b,off+z*x.val,none⟩) z z]) (KpB Bs Bn) (fun ys=>ys=List.finRange N) (fun _=>True) N w:=fun l J A W m t _ s B=>
 chunkB_in n l Bs Bn N z C y k v a b off cap u i d J A (fun pre W q h=>t pre W _ none h (grown_drewN W q) (fun r e=>nomatch e)) s W
  ((m.cell (p:=⟨Bs,0,none⟩) (World.block_lt_of_cell? w _ f)).trans f) ((m.cell (p:=⟨Bn,0,none⟩) (World.block_lt_of_cell? w _ j)).trans j) B
theorem zbR (a:Option Addr)(L cap z:Nat)(f:1≤z)(b:z≤64)(w:World) : Calls prog 109 #[.slice a L cap,.int .i64 z] w fun e w'=>e = .returned (.func (.func 161) #[] #[.pointer (some ⟨w.heap.size,0,none⟩),.pointer (some ⟨w.heap.size+1,0,none⟩)])∧(w.alloc (.cells #[.slice a L cap] 32)).alloc (.cells #[.int .i64 z] 3)=w':=by
 have h:(1:Int)≤(z:Int):=Ws;have d:(z:Int)≤64:=Ws;clear f b;go_enter func109,ntmps109;go_wp2;go_ret;exact⟨rfl,rfl⟩
attribute [local go_sem] Oper.semAt_some
def ckA (l:List UInt8)(i:Nat):List UInt8:=((l.drop (64*i)).take 64).take 32
def ckB (l:List UInt8)(i:Nat):List UInt8:=((l.drop (64*i)).take 64).drop 32
theorem ck_len (h:l.length=64*N)(a:i<N):(ckA l i).length=32∧(ckB l i).length=32:=by
 have b:64*(i+1)≤64*N:=ug 64 a;unfold ckA ckB;rw [Xe,XW,Xe,XW];omega
theorem ck_row (h:Row w b off (l.map bv))(d:l.length=64*N)(a:i<N):w.rangeAt b (off+64*i) ((ckA l i).map bv)∧w.rangeAt b (off+64*i+32) ((ckB l i).map bv):=by
 have f:64*(i+1)≤64*N:=ug 64 a;refine⟨fun j v hv=>?_,fun j v hv=>?_⟩
 ·have e:j<32:=by have:=(X6.1 hv).1;rw [Xb,(ck_len d a).1] at this;exact this
  rw [uS];refine h.cells (64*i+j) v ?_;rw [Xs] at hv ⊢;unfold ckA at hv;rw [X9,XK e,X9,XK Ws,uq] at hv;exact hv
 ·have e:j<32:=by have:=(X6.1 hv).1;rw [Xb,(ck_len d a).2] at this;exact this
  rw [uS,uS];refine h.cells (64*i+(32+j)) v ?_;rw [Xs] at hv ⊢;unfold ckB at hv;rw [uq,X9,XK Ws,uq] at hv;exact hv
theorem ck_all (l:List UInt8)(N:Nat):(List.finRange N).map (fun i=>ckA l i.val)=(Kx N l).rev∧(List.finRange N).map (fun i=>ckB l i.val)=(Kx N l).oth:=by
 have h:∀ f:Nat→List UInt8,(List.finRange N).map (fun i=>f i.val)=(List.range N).map f:=fun f=>by
  apply uZ;·simp
  ·intro i a h2;simp
 refine⟨?_,?_⟩;·rw [h (ckA l)];unfold Kx QT ckA;simp only [uL];rfl
 ·rw [h (ckB l)];unfold Kx QT ckB;simp only [uL];rfl
theorem jW.grown {W w w':World}{g:Nat}{q:Option Addr}{c1:Nat}{a2:Option Addr}{c2:Nat}{r o:List (List UInt8)}{row:Option Nat}(h:jW W g w q c1 a2 c2 r o)(u:w.grownBy w' row)(p:∀ k,row=some k→W.heap.size≤k∧∃ ob:Obj,w.heap[k]? = some ob∧ob.isCells=false):jW W g w' q c1 a2 c2 r o:=by
 have d:zb row.toList w w':=(zb.refl _ w).grown u (fun k e=>.inl (by simp [e]));have m:∀ k c t f,w.heap[k]? = some (.cells c t f)→k ∉ row.toList:=fun k c t f hc hm=>by obtain⟨ob,n,h2⟩:=(p k (XD hm)).2;rw [hc] at n;cases n;cases h2
 refine⟨h.kept.trans d (fun i s=>.inr (p i (XD s)).1),h.new_,d.heap h.box (m _ _ _ _ h.box),zk h.rev d (fun b e=>?_),zk h.oth d (fun b e=>?_),h.apart⟩
 ·rcases h.rev.2 with ⟨a,_⟩ | ⟨v,cap,j,a,_,l,_⟩;·rw [a] at e;cases e
  ·rw [a] at e;cases e;exact m _ _ _ _ l
 ·rcases h.oth.2 with ⟨a,_⟩ | ⟨v,cap,j,a,_,l,_⟩;·rw [a] at e;cases e
  ·rw [a] at e;cases e;exact m _ _ _ _ l
theorem KeepsFrom.of_kept {B:Nat}{X:List Nat}(h:zb X w w')(d:∀ k,k∈X→∃ c t f,w.heap[k]? = some (.cells c t f)):KeepsFrom B w w':=
 ⟨h.size,fun k o _ b e=>h.heap b (fun hm=>by
  obtain⟨c,t,f,a⟩:=d k hm;rw [b] at a;cases a;cases e)⟩
theorem ZA {base e:Nat}{v:Value}(h:w.ownsRow base e size v n xs)(a:v.ownBlock=some b):∃ c t f,w.heap[b]? = some (.cells c t f):=by
 rcases h.2 with ⟨d,_⟩ | ⟨k,cap,i,d,_,j,_⟩;·rw [d] at a;cases a
 ·rw [d] at a;cases a;exact⟨_,_,_,j⟩
structure DecR (N:Nat)(l:List UInt8)(W0:World)(gb:Nat)(pre:List (Fin N))(W:World):Prop where
 val:∃ a1 c1 a2 c2,jW W0 gb W a1 c1 a2 c2 (pre.map fun i=>ckA l i.val) (pre.map fun i=>ckB l i.val)
 box0:∃ c f,W.heap[gb+1]? = some (.cells c 32 f)
 box1:∃ c f,W.heap[gb+2]? = some (.cells c 3 f)
theorem lamDecode_any {c:Nat}(hb:zm w (.slice a l.length c) l)(hN:l.length=64*N)(R:xw N=true) : Calls prog 110 #[.slice a l.length c] w fun e w'=>(∃ a1 c1 a2 c2,e = .returned (.tuple #[.agg #[.slice a1 N c1,.slice a2 N c2],.int .i64 0])∧Slc w' 32 (.slice a1 N c1) N ((Kx N l).rev.flatten.map bv)∧Slc w' 32 (.slice a2 N c2) N ((Kx N l).oth.flatten.map bv)∧(∀ g,yt (.slice a1 N c1)=some g→w.heap.size≤g)∧(∀ g,yt (.slice a2 N c2)=some g→w.heap.size≤g))∧zb [] w w':=by
 have aw:8≤N∧N≤256:=by unfold xw at R;simp only [XR,Xa] at R;omega
 obtain⟨u,off,rfl,Z,aa⟩:=jR (size:=1) hb Ws;have ao:c≤maxLen:=by obtain⟨a',c',h3,-,h4⟩:=hb.form;simp only [XU] at h3;omega
 obtain⟨C,Gb⟩:=XE (w.alloc (.cells #[.slice none 0 0,.slice none 0 0] 85));have Gc:Hid (zb [] w C):=qI (kA1 Gb.o);have Gx:Hid (C.heap[w.heap.size]? = some (.cells #[.slice none 0 0,.slice none 0 0] 85 (0,0))):=qI (by rw [Gb.o];exact zd rfl);have az:C.heap.size=w.heap.size+1:=by rw [Gb.o];simp
 have CM:Hid (Calls prog 85 #[.int .i64 N] C fun e w'=>e = .returned (.bool true)∧C=w'):=qI (by have U:=bp N Ws Ws C;rw [R] at U;exact U);obtain⟨W3,Jp⟩:=XE (C.alloc (.cells #[.slice none 0 0,.slice none 0 0] 85));have Jt:Hid (jW C C.heap.size W3 none 0 none 0 [] []):=qI (by rw [Jp.o];exact out_new C);have a4:W3.heap.size=C.heap.size+1:=by rw [Jp.o];simp
 have CH:=qI (zbR (some ⟨u,off,none⟩) l.length c 64 Wo Wo W3);have Mc:=qI aa;have HN:=qI hN;have Jh:=qI aw;have HC:=qI (And.intro Z ao);have au:((l.length:Int)%64)=0:=Ws;have a0:((l.length:Int)/64)=(N:Int):=Ws;clear hb aa R Z ao;refine callsIn_wide.1 (callsIn_of_wp_marks (F:=Fence.wide) (n:=3) func110 rfl trivial ?_ rfl);refine wpIn_wide.2 ?_;simp only [ntmps110,X2,XP,Xo,Nat.reduceAdd,Nat.reduceSub,Array.replicate_succ,Array.replicate_zero,List.push_toArray,List.append_toArray,X8,uU];generalize hL:l.length=L at CH au a0;have Mv:=qI hL;clear hL;go_upto_region 1 with fail;rw [← Gb.o];go_upto_region 4 with (go_at_call 85;refine CM.o.mono ?_;rintro e w' ⟨rfl,rfl⟩);rw [← Jp.o];go_wp2_with (go_at_call 109;refine CH.o.mono ?_;rintro e w' ⟨rfl,rfl⟩);rw [az] at Jt;obtain⟨W4,Gr⟩:=XE ((W3.alloc (.cells #[.slice (some ⟨u,off,none⟩) L c] 32)).alloc (.cells #[.int .i64 64] 3));have a9:W4.heap.size=w.heap.size+4:=by rw [Gr.o];simp;omega
 have Dg:Hid (W4.heap[w.heap.size+1+1]? = some (.cells #[.slice (some ⟨u,off,none⟩) L c] 32 (0,0))):=qI (by
  rw [Gr.o];exact ((zb.refl [] _).alloc _).heap (zd Ws) Wz)
 have Gh:Hid (W4.heap[w.heap.size+1+2]? = some (.cells #[.int .i64 64] 3 (0,0))):=qI (by
  rw [Gr.o];exact zd (by rw [World.size_alloc];omega))
 have aq:W4.cell? ⟨w.heap.size+1+1,0,none⟩=some (.slice (some ⟨u,off,none⟩) (64*N) c):=by rw [Gr.o,← HN.o,Mv.o];exact ((zb.refl [] _).alloc _).cell (za (zd Ws) rfl) Wz
 have ay:W4.cell? ⟨w.heap.size+1+1+1,0,none⟩=some (.int .i64 64):=by rw [Gr.o];exact za (zd (by rw [World.size_alloc];omega)) rfl
 have Dh:Hid (jW C (w.heap.size+1) W4 none 0 none 0 [] []):=qI (Jt.o.k0 (kA2 Gr.o));rw [← Gr.o];refine (wpIn_wide (n:=3)).1 ?_
 refine wpIn_rangeFunc_ownG (F:=Fence.wide) (n:=3) rfl Wo (gf:=161) (lb:=#[.pointer (some ⟨w.heap.size+1+1,0,none⟩),.pointer (some ⟨w.heap.size+1+1+1,0,none⟩)]) rfl trivial (enters_of func161 Wr rfl)
  (JF 2 (w.heap.size+1+1) (w.heap.size+1+1+1) N 64 Wo Wo Wo Jh.o.2 (some ⟨u,off,none⟩) u off c (fun _=>rfl) (by rw [← HN.o];exact HC.o.1) HC.o.2 W4 aq ay)
  (fun h k=>⟨k.1.trans h.1,k.2.trans h.2⟩) (fun W l o o' hl _ _ _=>⟨World.putObj_heap_other Ws,World.putObj_heap_other Ws⟩) (Below.refl _ _) (fun _=>rfl)
  (fun pre W=>DecR N l C (w.heap.size+1) pre W) (fun _ _ _=>False)
  (fun pre A B row hs E hr=>by
   obtain⟨a1,c1,a2,c2,h⟩:=hs.val;have ak:∀ k c t f,A.heap[k]? = some (Obj.cells c t f)→B.heap[k]? = some (Obj.cells c t f):=fun k c t f hc=>(E.block k (lt_of_block hc) (fun e=>by
    obtain⟨ob,U,h2⟩:=(hr k e.symm).2;rw [hc] at U;cases U;cases h2)).trans hc
   obtain⟨d0,f0,e0⟩:=hs.box0;obtain⟨d1,f1,e1⟩:=hs.box1;exact⟨⟨a1,c1,a2,c2,h.grown E (fun k e=>⟨by have:=(hr k e).1;omega,(hr k e).2⟩)⟩,⟨d0,f0,ak _ _ _ _ e0⟩,⟨d1,f1,ak _ _ _ _ e1⟩⟩)
  (fun _ _ _ _ _ hs _ _=>hs)
  ⟨⟨none,0,none,0,Dh.o⟩,⟨_,_,Dg.o⟩,⟨_,_,Gh.o⟩⟩
  (fun x=>{ tmps:=#[.slice (some ⟨u,off,none⟩) L c,undef,.pointer (some ⟨w.heap.size,0,none⟩),.int .i64 0,.pointer (some ⟨w.heap.size+1,0,none⟩),.slice (some ⟨u,off+64*x.val,none⟩) 64 64,.slice (some ⟨u,off,none⟩) L c,.int .i64 L,.int .i64 0,.bool false,.bool false,.slice (some ⟨u,off,none⟩) L c,.int .i64 L,.int .i64 N,.bool true,.bool false,.bool false,undef,.slice (some ⟨u,off,none⟩) L c,.func (.func 161) #[] #[.pointer (some ⟨w.heap.size+1+1,0,none⟩),.pointer (some ⟨w.heap.size+1+1+1,0,none⟩)],.slice (some ⟨u,off+64*x.val,none⟩) 64 64,undef,undef,undef,undef,undef,undef,undef,undef,undef,undef,undef,undef,undef,undef,undef,undef,undef,undef,undef],defers:=[] }) ?assign ?body ?done ?stop
 case assign=>
  intro l' x W K X
  gi_wp2
  exact X
 case body=>
  rintro l' pre G W ⟨⟨a1,c1,a2,c2,s⟩,⟨d0,e0,ai⟩,⟨aA,e1,Y⟩⟩ hlen;have Mx:=qI ai;have My:=qI Y;have H:=qI s;obtain⟨aj,ae⟩:=ck_len HN.o G.isLt;obtain⟨af,ax⟩:=ck_row (i:=G.val) (Mc.o.kept (Gc.o.then s.kept) Wz) HN.o G.isLt;have Jq:=qI aj;have Mh:=qI ae;have Jd:=qI af;have Jn:Hid (C.rangeAt u (off+64*G.val+32) ((ckB l G.val).map bv)):=qI (ck_row (i:=G.val) (Mc.o.kept Gc.o Wz) HN.o G.isLt).2;have Q:Hid ((pre.map fun i=>ckA l i.val).length=pre.length):=qI Wz;have P:Hid ((pre.map fun i=>ckB l i.val).length=pre.length):=qI Wz;have f0:W.cell? ⟨w.heap.size+1,0,none⟩=some (.slice a1 pre.length c1):=by have I:=za (o:=0) (v:=.slice a1 (pre.map fun i=>ckA l i.val).length c1) s.box rfl;rw [Q.o] at I;exact I
  have Mq:=qI hlen;have Mz:Hid (((pre++[G]).map fun i=>ckA l i.val)=(pre.map fun i=>ckA l i.val)++[ckA l G.val]):=qI Wz;have Ya:Hid (((pre++[G]).map fun i=>ckB l i.val)=(pre.map fun i=>ckB l i.val)++[ckB l G.val]):=qI Wz;generalize ckA l G.val=x1 at Jq Jd Mz;generalize ckB l G.val=x2 at Mh Jn Ya;have Md:Hid (pre.length≤256):=qI (XC Jh.o);generalize (pre.map fun i=>ckA l i.val)=rv at H Q Mz;generalize (pre.map fun i=>ckB l i.val)=ot at H P Ya;generalize pre.length=m at f0 Q P Md;generalize off+64*G.val=q at Jd Jn;clear s aj ae af ax hlen ai Y
  gi_wp2
  refine Y7 (k:=40) 7 [fI (.pointer (some ⟨w.heap.size+1,0,none⟩)),
   fI (.slice a1 m c1),
   fI (.slice (some ⟨u,q,none⟩) 64 64),
   fI (.slice (some ⟨u,q,none⟩) 32 64),
   fI (.pointer (some ⟨u,q,none⟩)),
   fI (.agg (x1.map bv).toArray),
   je (x1.map bv) 1 32] Wr Wr (fun⟨_,_,h⟩=>h) rfl Wr (fun x=>qB) ?_ ?_
  ·refine⟨?_,?_,?_,?_,?_,?_,?_,trivial⟩ <;> intro x w2 p b hd;·exact zi
   ·have d0:x 0=_:=hd 0 Wr;have y0:=p.cell f0 Wz;exact zi
   ·exact zi
   ·have d2:x 2=_:=hd 2 Wr;exact zi
   ·have d3:x 3=_:=hd 3 Wr;have d3:x 3=_:=hd 3 Wr;go_wp2_with fail;rename_i X;exact X _ _ ⟨rfl,_,by simp only [Xd,Nat.reduceAdd,d3],rfl,Wd⟩
   ·have d4:x 4=_:=hd 4 Wr;have d4:x 4=_:=hd 4 Wr;change wpList _ _ _ [_] _ _;refine yy Wk _ rfl (g:=u) (of:=q) (fun j v hv=>p.cell (Jd.o j v hv) Wz) Jq.o d4 ?_;exact⟨rfl,_,rfl,rfl,Wd⟩
   ·have d5:x 5=_:=hd 5 Wr;have d5:x 5=_:=hd 5 Wr;change wpList _ _ _ [_] _ _;refine ki underlying78 ja J8 Wo Wo Wk _ rfl (cs:=x1.map bv) (by simp [Jq.o]) d5 ?_;exact⟨rfl,_,rfl,⟨w2.heap.size,rfl,XA,Wz,yE w2 (x1.map bv) 32 1 _ _ rfl (by simp [Jq.o]) Wo⟩,Wd.alloc _⟩
  ·intro x w7 p b7 hd J;have d1:x 1=_:=hd 1 Wo;obtain⟨g9,d6,-,-,M⟩:=hd 6 Wo;have Gk:=qI M;have Jg:=qI (H.o.k0 p);have Jl:=qI p;clear hd J p M;change wpList _ _ _ [_,_,_] _ _;go_wp2_with (at_builtin;refine zz ty32 (v:=.slice a1 m c1) (n:=m) (xs:=rv.flatten.map bv) (by have I:=Jg.o.rev;rw [Q.o] at I;exact I) Gk.o (qr _) (by have:=Md.o;simp only [maxLen];omega) (XC Md.o) Jg.o.kept.size rfl _ _ rfl d1 d6 ?_;intro v5 w8 r ab _ ah;obtain⟨a5,c5,rfl,-,-⟩:=(Slc.of_row r).form;have Ga:=qI ab;obtain⟨u0,uf,ho8⟩:=Jg.o.push0 (x:=x1) (a5:=a5) (c5:=c5) (by rw [Q.o];exact r) (by rw [Q.o];exact ab) (by rw [Q.o];exact ah);rw [Q.o] at u0 ho8;rw [← Mz.o] at ho8;have Jb:=qI ho8;clear r ab ah ho8);have Yp:Hid (zb ((w.heap.size+1)::(Value.slice a1 m c1).ownBlock.toList) W (w8.setCell ⟨w.heap.size+1,0,none⟩ (.slice a5 (m+1) c5))):=qI ((((Jl.o.mono Wz).trans' (Ga.o.mono (fun k h=>Xj _ h)))).setCell (.inl Wz) _);generalize w8.setCell ⟨w.heap.size+1,0,none⟩ (.slice a5 (m+1) c5)=w9 at Jb Yp;have f1:=za (o:=1) Jb.o.box rfl;rw [P.o] at f1;have Jz:Hid (w9.rangeAt u (q+32) (x2.map bv)):=qI (fun j v hv=>(Jb.o.kept).cell (Jn.o j v hv) Wz)
   gi_wp2
   refine Y7 (k:=40) 7 [fI (.pointer (some ⟨w.heap.size+1,1,none⟩)),
    fI (.slice a2 m c2),
    fI (.slice (some ⟨u,q,none⟩) 64 64),
    fI (.slice (some ⟨u,q+32,none⟩) 32 32),
    fI (.pointer (some ⟨u,q+32,none⟩)),
    fI (.agg (x2.map bv).toArray),
    je (x2.map bv) 1 32] Wr Wr (fun⟨_,_,h⟩=>h) rfl Wr (fun x=>qB) ?_ ?_
   ·refine⟨?_,?_,?_,?_,?_,?_,?_,trivial⟩ <;> intro x w2 p b hd;·exact zi
    ·have d0:x 0=_:=hd 0 Wr;have y0:=p.cell f1 Wz;exact zi
    ·exact zi
    ·have d2:x 2=_:=hd 2 Wr;exact zi
    ·have d3:x 3=_:=hd 3 Wr;have d3:x 3=_:=hd 3 Wr;go_wp2_with fail;rename_i X;exact X _ _ ⟨rfl,_,by simp only [Xd,Nat.reduceAdd,d3],rfl,Wd⟩
    ·have d4:x 4=_:=hd 4 Wr;have d4:x 4=_:=hd 4 Wr;change wpList _ _ _ [_] _ _;refine yy Wk _ rfl (g:=u) (of:=q+32) (fun j v hv=>p.cell (Jz.o j v hv) Wz) Mh.o d4 ?_;exact⟨rfl,_,rfl,rfl,Wd⟩
    ·have d5:x 5=_:=hd 5 Wr;have d5:x 5=_:=hd 5 Wr;change wpList _ _ _ [_] _ _;refine ki underlying78 ja J8 Wo Wo Wk _ rfl (cs:=x2.map bv) (by simp [Mh.o]) d5 ?_;exact⟨rfl,_,rfl,⟨w2.heap.size,rfl,XA,Wz,yE w2 (x2.map bv) 32 1 _ _ rfl (by simp [Mh.o]) Wo⟩,Wd.alloc _⟩
   ·intro x a7 p a8 hd J;have d1:x 1=_:=hd 1 Wo;obtain⟨g9,d6,-,-,M⟩:=hd 6 Wo;have Gk:=qI M;have Jo:=qI (Jb.o.k0 p);have Yb:=qI p;clear hd J p M;change wpList _ _ _ [_,_,_] _ _;go_wp2_with (at_builtin;refine zz ty32 (v:=.slice a2 m c2) (n:=m) (xs:=ot.flatten.map bv) (by have I:=Jo.o.oth;rw [P.o] at I;exact I) Gk.o (qr _) (by have:=Md.o;simp only [maxLen];omega) (XC Md.o) Jo.o.kept.size rfl _ _ rfl d1 d6 ?_;intro v6 a3 r ad _ ag;obtain⟨a6,c6,rfl,-,-⟩:=(Slc.of_row r).form;have Mb:=qI ad;obtain⟨u0,uf,ho18⟩:=Jo.o.push1 (x:=x2) (a5:=a6) (c5:=c6) (by rw [P.o];exact r) (by rw [P.o];exact ad) (by rw [P.o];exact ag);rw [P.o] at u0 ho18;rw [← Ya.o] at ho18;have Yc:=qI ho18;clear r ad ag ho18);have O:zb ((w.heap.size+1)::((Value.slice a1 m c1).ownBlock.toList++(Value.slice a2 m c2).ownBlock.toList)) W (a3.setCell ⟨w.heap.size+1,1,none⟩ (.slice a6 (m+1) c6)):=
     ((((Yp.o.mono (fun k h=>(XY.1 h).elim (fun h=>by rw [h];simp) (fun h=>Xj _ (uu _ h)))).then Yb.o).trans' (Mb.o.mono (fun k h=>Xj _ (VE _ h))))).setCell (.inl Wz) _
    have ar:∀ k,k∈(w.heap.size+1)::((Value.slice a1 m c1).ownBlock.toList++(Value.slice a2 m c2).ownBlock.toList)→∃ c t f,W.heap[k]? = some (.cells c t f):=fun k y=>by
     rcases XY.1 y with rfl | y;·exact⟨_,_,_,H.o.box⟩
     rcases uO.1 y with y | y;·exact ZA H.o.rev (by rw [Q.o];exact XD y)
     ·exact ZA H.o.oth (by rw [P.o];exact XD y)
    have ap:∀ k d t e,W.heap[k]? = some (.cells d t e)→t≠49→k≠w.heap.size+1→k ∉ (w.heap.size+1)::((Value.slice a1 m c1).ownBlock.toList++(Value.slice a2 m c2).ownBlock.toList):=fun k d t e U h2 h3 y=>by
     rcases XY.1 y with y | y;·exact h3 y
     rcases uO.1 y with y | y;·have h4:=yw H.o.rev (by rw [Q.o];exact XD y);rw [zQ U] at h4;exact h2 (Nat.add_right_cancel h4)
     ·have h4:=yw H.o.oth (by rw [P.o];exact XD y);rw [zQ U] at h4;exact h2 (Nat.add_right_cancel h4)
    have h8:=ap _ _ _ _ Mx.o Wo Ws;have I:=ap _ _ _ _ My.o Wo Ws;exact⟨KeepsFrom.of_kept O ar,⟨O.block _ (lt_of_block Mx.o) h8,O.block _ (lt_of_block My.o) I⟩,⟨⟨a5,c5,a6,c6,Yc.o⟩,⟨_,_,O.heap Mx.o h8⟩,⟨_,_,O.heap My.o I⟩⟩⟩
 case done=>
  rintro D xs W hD rfl ⟨⟨a1,c1,a2,c2,s⟩,-,-⟩ X;rw [(ck_all l N).1,(ck_all l N).2] at s;obtain⟨am,an⟩:=zbD N l;have H:=qI s;have f0:=za (o:=0) s.box rfl;have f1:=za (o:=1) s.box rfl;rw [am] at f0;rw [an] at f1;have Jc:=qI (s.kept.heap Gx.o Wz);have r0:=za (o:=0) Jc.o rfl;have r1:=za (o:=1) Jc.o rfl;have z:∀ j,W.frozen? ⟨w.heap.size,j,none⟩=false:=fun j=>zh Jc.o
  clear s
  gi_wp2
  go_wp2_with fail;change bodyPostM _ _ _ _ _ _ _ (put2 W w.heap.size (.slice a1 N c1) (.slice a2 N c2));have O:=ZL W w.heap.size (.slice a1 N c1) (.slice a2 N c2);have Gi:=put2_at Jc.o (.slice a1 N c1) (.slice a2 N c2);have al:=O.heap X (by simp;omega);generalize put2 W w.heap.size (.slice a1 N c1) (.slice a2 N c2)=WF at O Gi al;have Mi:zb [D] WF (WF.putObj D (.deferred none)):=Wd.grown (grownBy_putObj' WF D (.deferred none)) (fun k e=>by cases e;exact .inl Wz);refine⟨Wz,.inl ⟨_,_,rfl,run_takeDeferred al,?_⟩⟩;have Yd:=Mi.heap Gi (by simp;omega);generalize WF.putObj D (.deferred none)=WZ at Mi Yd;have y0:=za (o:=0) Yd rfl;have y1:=za (o:=1) Yd rfl;have e1:=H.o.rev;have e2:=H.o.oth;rw [am] at e1;rw [an] at e2;have av:∀ g,kind W g=49+2→g≠D:=fun g E e=>by subst e;simp [Go.Proofs.YtjccecajigmfkaaGreatDoor.kind,X] at E
  have hr:∀ {v:Value}{xs:List Value},W.ownsRow C.heap.size 49 32 v N xs→Slc WZ 32 v N xs∧∀ g,v.ownBlock=some g→w.heap.size≤g:=fun {v xs} h=>by refine⟨Slc.of_row (zk (zk h O (fun g E hx=>by have h3:=(h.lt g E).1;simp at hx;omega)) Mi (fun g E hx=>by simp at hx;exact av g (yw h E) hx)),fun g E=>?_⟩;have:=(h.lt g E).1;omega
  refine⟨.tuple #[.agg #[.slice a1 N c1,.slice a2 N c2],.int .i64 0],by simp [results,results110,go_sem,y0,y1],⟨a1,c1,a2,c2,rfl,(hr e1).1,(hr e2).1,fun g E=>(hr e1).2 g (yL E),fun g E=>(hr e2).2 g (yL E)⟩,?_⟩;exact ((Gc.o.then H.o.kept).trans O (by intro i hi;simp at hi;subst hi;exact .inr (XA))).trans Mi (by intro i hi;simp at hi;subst hi;exact .inr Ws)
 case stop=>rintro D c' pre W _ _ h _;exact h.elim
attribute [local go_sem] Oper.semAt_some
theorem rd_chain (a d:Nat)(b:List UInt8):((rdB d (rdB a (rdN b).2.1 (rdN b).2.2).2.1 (rdB a (rdN b).2.1 (rdN b).2.2).2.2).2.2=false∧(rdB d (rdB a (rdN b).2.1 (rdN b).2.2).2.1 (rdB a (rdN b).2.1 (rdN b).2.2).2.2).2.1=[])↔b.length=4+a+d:=by
 unfold rdN;by_cases i:4≤b.length
 ·rw [XK i];unfold rdB;by_cases e:a≤(b.drop 4).length∧false=false
  ·rw [XK e];dsimp only;by_cases h2:d≤((b.drop 4).drop a).length∧false=false;·rw [XK h2];dsimp only;have h3:=h2.1;have f:=e.1;simp only [XW] at h3 f;rw [← List.length_eq_zero_iff];simp only [XW,true_and];omega
   ·rw [XJ h2];dsimp only;have h3:¬ d≤((b.drop 4).drop a).length:=fun h=>h2 ⟨h,rfl⟩;have f:=e.1;simp only [XW] at h3 f;simp only [Bool.true_eq_false,false_and,false_iff];omega
  ·rw [XJ e];dsimp only;have f:¬ a≤(b.drop 4).length:=fun h=>e ⟨h,rfl⟩;simp only [XW] at f;have h6:(if d≤([]:List UInt8).length∧true=false then (([]:List UInt8).take d,([]:List UInt8).drop d,false) else ([],[],true))=([],[],true):=XJ (fun h=>by cases h.2);rw [h6];simp only [Bool.true_eq_false,false_and,false_iff];omega
 ·rw [XJ i];unfold rdB;dsimp only;have h6:∀ n,(if n≤([]:List UInt8).length∧true=false then (([]:List UInt8).take n,([]:List UInt8).drop n,false) else ([],[],true))=([],[],true):=fun n=>XJ (fun h=>by cases h.2);rw [h6 a];dsimp only;rw [h6 d];simp only [Bool.true_eq_false,false_and,false_iff];omega
theorem rd_vals (a d:Nat)(b:List UInt8)(h:b.length=4+a+d):(rdN b).1=Y3 (b.take 4)∧(rdB a (rdN b).2.1 (rdN b).2.2).1=(b.drop 4).take a∧(rdB d (rdB a (rdN b).2.1 (rdN b).2.2).2.1 (rdB a (rdN b).2.1 (rdN b).2.2).2.2).1=(b.drop (4+a)).take d:=by
 unfold rdN;rw [XK Ws];unfold rdB;dsimp only;rw [XK ⟨by rw [XW];omega,rfl⟩];dsimp only;rw [XK ⟨by rw [XW,XW];omega,rfl⟩];refine⟨rfl,rfl,?_⟩;rw [uD]
structure bJ (W:World)(g:Nat)(w:World)(lf:Int)(a:Option Addr)(c:Nat)(ps:List (List UInt8)):Prop where
 kept:zb [g] W w
 box:w.heap[g]? = some (.cells #[.int .i64 lf,.slice none 0 0,.slice none 0 0,.slice a ps.length c] 87 (0,0))
 row:w.ownsRow W.heap.size 49 32 (.slice a ps.length c) ps.length (ps.flatten.map bv)
theorem bJ.k0 {g:Nat}{c:Nat}(h:bJ W g w lf a c ps)(k:zb [] w w'):bJ W g w' lf a c ps:=
 ⟨h.kept.then k,k.heap h.box Wz,zk h.row k Wz⟩
theorem bJ.push {g:Nat}{c:Nat}(h:bJ W g w lf a c ps){a5:Option Addr}{c5:Nat}(f:w'.ownsRow W.heap.size 49 32 (.slice a5 (ps.length+1) c5) (ps.length+1) (ps.flatten.map bv++x.map bv))(p:zb (Value.slice a ps.length c).ownBlock.toList w w') : w'.cell? ⟨g,3,none⟩=some (.slice a ps.length c)∧w'.frozen? ⟨g,3,none⟩=false∧bJ W g (w'.setCell ⟨g,3,none⟩ (.slice a5 (ps.length+1) c5)) lf a5 c5 (ps++[x]):=by
 have m:g ∉ (Value.slice a ps.length c).ownBlock.toList:=fun k=>xP (yw h.row (XD k)) (zQ h.box) Wo rfl;have d:=p.heap h.box m;have l:zb [g] w' (w'.setCell ⟨g,3,none⟩ (.slice a5 (ps.length+1) c5)):=Wd.setCell (.inl Wz) _;have j:(ps++[x]).length=ps.length+1:=Wz;have n:((ps++[x]).flatten).map bv=ps.flatten.map bv++x.map bv:=Wz;refine⟨za d rfl,zh d,⟨?_,?_,?_⟩⟩;·exact ((h.kept.trans p (fun i q=>.inr (h.row.lt i (XD q)).1))).setCell (.inl Wz) _
 ·rw [j];exact ze d rfl
 ·rw [j,n];exact zk f l (fun b e k=>by
   simp at k;subst k;exact xP (yw f e) (zQ d) Wo rfl)
theorem bJ.grown {W w w':World}{g:Nat}{lf:Int}{a:Option Addr}{c:Nat}{ps:List (List UInt8)}{row:Option Nat}(h:bJ W g w lf a c ps)(p:w.grownBy w' row)(l:∀ k,row=some k→W.heap.size≤k∧∃ ob:Obj,w.heap[k]? = some ob∧ob.isCells=false):bJ W g w' lf a c ps:=by
 have j:zb row.toList w w':=(zb.refl _ w).grown p (fun k e=>.inl (by simp [e]));have m:∀ k c t f,w.heap[k]? = some (.cells c t f)→k ∉ row.toList:=fun k c t f hc hm=>by obtain⟨ob,d,h2⟩:=(l k (XD hm)).2;rw [hc] at d;cases d;cases h2
 refine⟨h.kept.trans j (fun i n=>.inr (l i (XD n)).1),j.heap h.box (m _ _ _ _ h.box),zk h.row j (fun b e=>?_)⟩;obtain⟨c,t,f,d⟩:=ZA h.row e;exact m _ _ _ _ d
theorem cut_row (h:Row w b off (l.map bv))(f:l.length=n*N)(d:i<N):w.rangeAt b (off+n*i) (((l.drop (n*i)).take n).map bv)∧((l.drop (n*i)).take n).length=n:=by
 have a:n*(i+1)≤n*N:=ug n d;rw [Nat.mul_add] at a;refine⟨fun j v hv=>?_,by rw [Xe,XW];omega⟩;have e:j<n:=by have:=(X6.1 hv).1;rw [Xb,Xe] at this;omega
 rw [uS];refine h.cells (n*i+j) v ?_;rw [Xs] at hv ⊢;rw [X9,XK e,uq] at hv;exact hv
theorem cut_all (n N:Nat)(l:List UInt8):(List.finRange N).map (fun i=>(l.drop (n*i.val)).take n)=QT n N l:=by
 unfold QT;apply uZ;·simp
 ·intro i a h2;simp
structure WayR (N:Nat)(l:List UInt8)(W0:World)(gs:Nat)(lf:Int)(B:Nat)(pre:List (Fin N))(W:World):Prop where
 val:∃ a c,bJ W0 gs W lf a c (pre.map fun i=>(l.drop (32*i.val)).take 32)
 box0:∃ c f,W.heap[B]? = some (.cells c 32 f)
 box1:∃ c f,W.heap[B+1]? = some (.cells c 3 f)
def J6 (w w':World)(e:Ending)(k:yY)(b:List UInt8):Prop:=
 if yl k=true∧bO k.bits.toNat k.height.toNat b=true then
  ∃ a1 c1 a2 c2 a3 c3,e = .returned (.tuple #[.agg #[.int .i64 (kH k.bits.toNat k.height.toNat b).leaf,.slice a1 k.bits.toNat c1,.slice a2 k.bits.toNat c2,.slice a3 k.height.toNat c3],.int .i64 0]) ∧
   Slc w' 32 (.slice a1 k.bits.toNat c1) k.bits.toNat ((kH k.bits.toNat k.height.toNat b).one.rev.flatten.map bv)∧Slc w' 32 (.slice a2 k.bits.toNat c2) k.bits.toNat ((kH k.bits.toNat k.height.toNat b).one.oth.flatten.map bv)∧Slc w' 32 (.slice a3 k.height.toNat c3) k.height.toNat ((kH k.bits.toNat k.height.toNat b).way.flatten.map bv)
 else ∃ z:Int,z≠0∧-1000≤z∧z≤1000∧e = .returned (.tuple #[.agg #[.int .i64 0,.slice none 0 0,.slice none 0 0,.slice none 0 0],.int .i64 z])
end Go.Proofs.YtjccecajigmfkaaGreatDoor

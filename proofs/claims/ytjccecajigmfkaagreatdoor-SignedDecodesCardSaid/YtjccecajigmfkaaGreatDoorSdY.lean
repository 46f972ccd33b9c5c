/- Parts of one proof, merged: XBH XBI XBJ XBK XBN XBO XHC. -/
import Derived.Test.YtjccecajigmfkaaGreatDoorSdX
import Derived.Laws.OwnMore
set_option linter.all false
set_option maxHeartbeats 12800000
set_option maxRecDepth 100000
namespace Go.Proofs.YtjccecajigmfkaaGreatDoor
open Go.Proofs.Tryz
open Go.RowKit
attribute [local go_sem] Oper.semAt_some
variable {a1 a2:Option Addr}{base bk cap e n off size:Nat}{w:World}{x0:List UInt8}{xs:List Value}
structure UpAt (W:World)(g:Nat)(w:World)(a:Option Addr)(c:Nat)(ps:List (List UInt8)):Prop where
 kept:zb [g] W w
 box:w.heap[g]? = some (.cells #[.slice a ps.length c] 78 (0,0))
 row:w.ownsRow W.heap.size 49 32 (.slice a ps.length c) ps.length (ps.flatten.map bv)
structure UpR (nd:List UInt8)(W0:World)(gs:Nat)(pre:List (Fin 1))(W:World):Prop where
 val:∃ a c,UpAt W0 gs W a c (pre.map fun _=>nd)
 box0:∃ c f,W.heap[gs+1]? = some (.cells c 78 f)
 box1:∃ c f,W.heap[gs+2]? = some (.cells c 3 f)
attribute [local go_sem] Oper.semAt_some
@[go_sem] theorem eqlNil32 (w:World)(a:Option Addr)(n c:Nat):(binOp .eql 78 (.slice a n c) (.slice none 0 0)).run prog w = .ok (.bool a.isNone) w:=Lib.run_eql_slice_nil w _ _ a n c 0 0 underlying78
theorem clone32_any {j:Addr}{c:Nat}(h:Slc w 32 (.slice (some j) n c) n xs)(m:∀ u∈xs,u.oneCell'=true)(r:n≤1000000) : Calls prog 137 #[.slice (some j) n c] w fun e w'=>(∃ a c,e = .returned (.slice a n c)∧w'.ownsRow w.heap.size 49 32 (.slice a n c) n xs)∧zb [] w w':=by
 have k:=(zb.refl [] w).alloc (.cells #[] 49);have d:=own_new (size:=32) (base:=w.heap.size) (t:=49) w rfl (XA);have f:=h.k0 k;go_enter func137,ntmps137;go_wp2_with (at_builtin;refine zz ty32 d f m (by simp only [maxLen];omega) Ws Wz rfl _ _ rfl rfl rfl ?_;intro q w1 b i _ l);rw [Xd,X8] at b;obtain⟨p,s,rfl,-,-⟩:=(Slc.of_row b).form;go_ret;exact⟨⟨_,_,rfl,b⟩,k.trans i (by simp [Value.ownBlock])⟩
attribute [local go_sem] Oper.semAt_some
structure Lev2 (w:World)(g:Nat)(x0 x1 nd:List UInt8):Prop where
 ex:∃ gb c2 gc oc c3,w.cell? ⟨g,0,none⟩=some (.slice (some ⟨gb,0,none⟩) 2 c2)∧w.cell? ⟨g,1,none⟩=some (.slice (some ⟨gc,oc,none⟩) 1 c3)∧w.rangeAt gb 0 (x0.map bv)∧w.rangeAt gb 32 (x1.map bv)∧w.rangeAt gc oc (nd.map bv)
theorem own_zero {c:Nat}{a:Option Addr}(h:w.ownsRow base e size (.slice a n c) n xs)(f:0<n):∃ g,a=some ⟨g,0,none⟩:=by
 rcases h.2 with ⟨-,d⟩ | ⟨g,cap,b,e,-⟩;·omega
 ·injection e with e1 e2 e3;exact⟨g,e1⟩
theorem own_cap {c g:Nat}(h:w.ownsRow base e size (.slice (some ⟨g,0,none⟩) n c) n xs):n≤c∧c≤maxLen:=by
 obtain⟨d,f,h3,b,a⟩:=(Slc.of_row h).form;simp only [XU] at h3;obtain⟨-,-,rfl⟩:=h3;exact⟨b,a⟩
attribute [local go_sem] Oper.semAt_some
attribute [local go_sem] Oper.semAt_some
theorem pair_flat {o:Q4}(d:yU o.rev)(h2:yU o.oth)(a:o.oth.length=o.rev.length):∀ k,k≤o.rev.length→((List.range k).map (vy o)).flatten.length=64*k
 | 0,_=>rfl
 | k+1,hk=>by have h3:=v8 d h2 a (b:=k) Ws;rw [ZE,XM,pair_flat d h2 a k Ws,vy,XM];omega
theorem zct {s:Q4}{c1 c2:Nat}(X:s.rev.length=n)(E:s.oth.length=n)(l:yU s.rev)(f:yU s.oth)(N:Slc w 32 (.slice a1 n c1) n (s.rev.flatten.map bv))(K:Slc w 32 (.slice a2 n c2) n (s.oth.flatten.map bv))(r:xw n=true) : Calls prog 95 #[.agg #[.slice a1 n c1,.slice a2 n c2]] w fun e w'=>(∃ a c,e = .returned (.tuple #[.slice a (vA s).length c,.int .i64 0])∧zm w' (.slice a (vA s).length c) (vA s))∧zb [] w w':=by
 have F:8≤n∧n≤256:=by unfold xw at r;simp only [XR,Xa] at r;omega
 obtain⟨L,H,rfl,-,C⟩:=jR N Ws;obtain⟨y,u,rfl,-,G⟩:=jR K Ws;obtain⟨P,R⟩:=XE (w.alloc (.cells #[.slice (some ⟨L,H,none⟩) n c1,.slice (some ⟨y,u,none⟩) n c2] 85));have Gc:Hid (zb [] w P):=qI (kA1 R.o);have Gd:Hid (P.heap[w.heap.size]? = some (.cells #[.slice (some ⟨L,H,none⟩) n c1,.slice (some ⟨y,u,none⟩) n c2] 85 (0,0))):=qI (by rw [R.o];exact zd rfl);have f0:=za (o:=0) Gd.o rfl;have D:=za (o:=1) Gd.o rfl;have CW:=qI (KD P (some ⟨L,H,none⟩) (some ⟨y,u,none⟩) n c1 c2 r);have Ge:=qI (C.kept Gc.o Wz);have Gf:=qI (G.kept Gc.o Wz);have Jr:Hid (∀ k,k≤n→(((List.range k).map (vy s)).flatten).length=64*k):=qI (fun k hk=>pair_flat l f Ws k Ws);have Js:Hid (vA s=((List.range n).map (vy s)).flatten):=qI (by unfold vA;rw [X]);have Jt:=qI X;have Ju:=qI E;have q:=qI (And.intro l f);have ag:(n:Int)≤256:=Ws;have Gg:=qI F;clear N K r C G l f X E F;go_enter func95,ntmps95;go_upto_region 1 with fail;refine yZ R.o ?_;go_upto_region 3 with (go_at_call 141;refine CW.o.mono ?_;rintro e z ⟨rfl,M⟩;have Ga:=qI M;clear M);obtain⟨W4,Jf⟩:=XE (z.alloc (.cells #[.slice none 0 0] 125));have Z:Hid (qX z z.heap.size W4 []):=qI (by rw [Jf.o];exact sumsNew z);have aa:=(Ga.o.then Z.o.kept).cell f0 Wz;clear f0;go_upto_region 4 with fail;rw [← Jf.o];generalize hp:z.heap.size=p at Z;clear hp;go_wp2_with fail;go_loopw [5,6,15] (fun _ _ i wr=>∃ k:Nat,i = .int .i64 k∧k≤n∧qX z p wr ((List.range k).map (vy s)).flatten) (fun _ _ i _=>n-(intOf i).toNat);case atStart=>exact⟨0,rfl,XB,Z.o⟩
 case round=>
  obtain⟨k,rfl,hk,m⟩:=hrel;have Q:=qI m;clear m aa;rcases Xr k n with h8 | h8
  ·have ad:(k:Int)<n:=by omega
   have Jv:=qI ad;have Gh:=qI h8;have Gt:Hid (zb [] P wr):=qI (Ga.o.then Q.o.kept);have B:k<s.rev.length:=by rw [Jt.o];exact h8
   have A:k<s.oth.length:=by rw [Ju.o];exact h8
   have Gi:Hid (wr.rangeAt L (H+k*32) (s.rev[k].map bv)):=qI (row32 (Ge.o.kept Gt.o Wz) q.o.1 k B);have Gj:Hid (wr.rangeAt y (u+k*32) (s.oth[k].map bv)):=qI (row32 (Gf.o.kept Gt.o Wz) q.o.2 k A);have O:Hid (s.rev[k].length=32):=qI (q.o.1 _ (XX _));have Gu:Hid (s.oth[k].length=32):=qI (q.o.2 _ (XX _));have U:Hid (vy s k=s.rev[k]++s.oth[k]):=qI (by
    rw [vy,List.getD,XN B,List.getD,XN A];rfl)
   have Jw:=qI (ZE (vy s) k);have Jx:=qI (Jr.o k Ws);have D:=Gt.o.cell D Wz;generalize s.rev[k]=x1 at Gi O U;generalize s.oth[k]=y1 at Gj Gu U;clear B A h8;go_upto_region 7 with first
    | (refine yy Wk _ rfl (g:=L) (of:=H+k*32) Gi.o O.o Wk ?_)
    | (refine zH Wk (.tmp 6) (.tmp 19) Wk (g:=wr.heap.size) (l0:=ku zX 0) (zd rfl) (yp _ _) O.o Wk Wk ?_;intro w4 h4 I;have Gp:=qI h4;have W:Hid (zb [] wr w4):=qI (((zb.refl [] wr).alloc _).trans I (by intro i hi;simp at hi;subst hi;exact .inr (XA)));clear h4 I;simp only [Act.put])
   have Jy:Hid (w4.rangeAt y (u+k*32) (y1.map bv)):=qI (fun j v hv=>W.o.cell (Gj.o j v hv) Wz);have D:=W.o.cell D Wz;have CA:Hid (∀ Y,zb [] w4 Y→Calls prog 87 #[.pointer (some ⟨p,0,none⟩),.agg (x1.map bv).toArray,.agg (y1.map bv).toArray] Y fun e w'=>e = .returned (.tuple #[])∧qX z p w' ((List.range (k+1)).map (vy s)).flatten):=qI (fun Y h=>by
    have h1:=bW (Q.o.k0 (W.o.then h)) O.o Gu.o (XH Jx.o Gg.o);rw [Jw.o,U.o,← Xv];exact h1)
   go_wp2
   refine yG (n:=33) 7 [fI (.pointer (some ⟨p,0,none⟩)),
    fI (.agg (x1.map bv).toArray),
    fI (.pointer (some ⟨w.heap.size,1,none⟩)),
    fI (.slice (some ⟨y,u,none⟩) n c2),
    fI (.int .i64 k),
    fI (.pointer (some ⟨y,u+k*32,none⟩)),
    fI (.agg (y1.map bv).toArray)] Wr rfl Wr (fun x=>qB) ?_ ?_
   ·refine⟨?_,?_,?_,?_,?_,?_,?_,trivial⟩ <;> intro x w2 d b hd;·exact zi
    ·change wpList _ _ _ [_] _ _;refine xa Wk (.tmp 6) Wk (Gp.o.k0 d) O.o Wk ?_;exact⟨rfl,_,rfl,rfl,Wd⟩
    ·exact zi
    ·have d2:x 2=_:=hd 2 Wr;have y0:=d.cell D Wz;exact zi
    ·exact zi
    ·have d3:x 3=_:=hd 3 Wr;have d4:x 4=_:=hd 4 Wr;have af:=Jv.o;exact zi
    ·have d5:x 5=_:=hd 5 Wr;have d5:x 5=_:=hd 5 Wr;change wpList _ _ _ [_] _ _;refine yy Wk _ rfl (g:=y) (of:=u+k*32) (fun j v hv=>d.cell (Jy.o j v hv) Wz) Gu.o d5 ?_;exact⟨rfl,_,rfl,rfl,Wd⟩
   ·intro x ab d ae hd J;have d0:x 0=_:=hd 0 Wo;have d1:x 1=_:=hd 1 Wo;have d6:x 6=_:=hd 6 Wo;have CX:=qI (CA.o ab d);clear hd J d;change wpList _ _ _ [_] _ _;go_wp2_with (go_at_call 87;refine CX.o.mono ?_;rintro e w9 ⟨rfl,m⟩;have Gx:=qI m;clear m);case roundEnd=>exact⟨⟨k+1,by go_num,by have:=Gh.o;omega,Gx.o⟩,by have:=Gh.o;simp [intOf];omega⟩
  ·obtain rfl:k=n:=by omega
   obtain⟨av,cv,hb,t⟩:=Q.o.val;have Gl:=qI t;have e0:=za (o:=0) hb rfl;rw [← Js.o] at Gl e0;clear hb t;go_wp2;go_ret2;exact⟨⟨_,_,rfl,Slc.of_row Gl.o⟩,Gc.o.then (Ga.o.then Q.o.kept)⟩
attribute [local go_sem] Oper.semAt_some
theorem way_flat {w:List (List UInt8)}(h:yU w)(k:Nat)(d:k≤w.length):(w.take k).flatten.length=32*k:=by
 have a:yU (w.take k):=fun x b=>h x (List.mem_of_mem_take b);rw [a.flat,Xe];omega
theorem sigEncode_any {s:SigS}{Z:Option Addr}{c1 c2 c3 d:Nat}(aa:s.leaf≤1073741824)(hn:s.one.rev.length=n)(A:s.one.oth.length=n)(H:s.way.length=d)(ag:d≤6)(u:yU s.one.rev)(q:yU s.one.oth)(t:yU s.way)(Q:Slc w 32 (.slice a1 n c1) n (s.one.rev.flatten.map bv))(N:Slc w 32 (.slice a2 n c2) n (s.one.oth.flatten.map bv))(F:Slc w 32 (.slice Z d c3) d (s.way.flatten.map bv))(h:xw n=true) : Calls prog 49 #[.agg #[.int .i64 s.leaf,.slice a1 n c1,.slice a2 n c2,.slice Z d c3]] w fun e w'=>(∃ a c,e = .returned (.tuple #[.slice a (xR s).length c,.int .i64 0])∧zm w' (.slice a (xR s).length c) (xR s))∧zb [] w w':=by
 obtain⟨W1,R⟩:=XE (w.alloc (.cells #[.int .i64 s.leaf,.slice a1 n c1,.slice a2 n c2,.slice Z d c3] 87));have Y:Hid (zb [] w W1):=qI (kA1 R.o);have v:Hid (zb6 W1 w.heap.size s.leaf (.slice a1 n c1) (.slice a2 n c2) (.slice Z d c3)):=qI (by rw [R.o];exact zd rfl);have D:n≤256:=by unfold xw at h;simp only [XR,Xa] at h;omega
 have CE:=qI (zct hn A u q (Q.k0 Y.o) (N.k0 Y.o) h);have CP:Hid (∀ w2,Calls prog 96 #[.int .i64 s.leaf,.int .i64 4] w2 _):=qI (fun w2=>Kv s.leaf 4 w2 Wo Wo (.inr Ws));have Jz:=qI (F.k0 Y.o);have G:Hid ((vA s.one).length=64*n):=qI (by rw [JQ u q Ws,hn]);have Gy:Hid (xR s=j8 s.leaf 4++vA s.one++s.way.flatten):=qI rfl;have Jg:Hid ((j8 s.leaf 4).length=4):=qI (xy _ _);have I:=qI t;have Gz:=qI H;have Gg:=qI D;have Ma:=qI (fun k C=>way_flat t k C);have ab:(s.leaf:Int)≤1073741824:=Ws;have ai:(d:Int)≤6:=Ws;have ae:decide ((1073741824:Int)<(s.leaf:Int))=false:=XO Ws;have ah:decide ((6:Int)<(d:Int))=false:=XO Ws;clear hn A H u q t Q N F h D;generalize vA s.one=co at CE G Gy;generalize j8 s.leaf 4=pl at CP Gy Jg;generalize s.leaf=lf at R v CP ab ae aa ⊢;have f0:=za (o:=0) v.o rfl;have f1:=za (o:=1) v.o rfl;have f2:=za (o:=2) v.o rfl;have f3:=za (o:=3) v.o rfl;go_enter func49,ntmps49;go_upto_region 1 with fail;refine yZ R.o ?_;go_upto_region 4 with (go_at_call 95;refine CE.o.mono ?_;rintro e w2 ⟨⟨a4,c4,rfl,hb⟩,j⟩;have y0:=j.cell f0 Wz;have y3:=j.cell f3 Wz;have Mb:=qI hb;have X:=qI j;clear j hb f0 f1 f2 f3);go_upto_region 5 with (go_at_call 96;refine (CP.o _).mono ?_;rintro e w3 ⟨a5,c5,rfl,ho,f⟩;have z3:=f.cell y3 Wz;have Jh:=qI ho;have Mc:=qI (Slc.k0 Mb.o f);have Ja:=qI (X.o.then f);have Md:=qI f.size;have ad:=qI f;clear f ho y0 y3);go_upto_region 6 with (at_builtin;refine zz vS Jh.o Mc.o (qr _) (by have:=G.o;have:=Gg.o;simp only [maxLen];omega) (XH G.o Gg.o) Md.o Wk _ _ rfl rfl rfl ?_;intro v6 w6 b O _ _;obtain⟨a6,c6,rfl,-,-⟩:=(Slc.of_row b).form;have Ji:=qI b;have Jj:Hid (zb [] w2 w6):=qI ((ad.o).trans O (fun i z=>.inr (Jh.o.lt i (XD z)).1));clear b O);obtain⟨L,P⟩:∃ L:Nat→List UInt8,Hid (∀ k,L k=pl++co++(s.way.take k).flatten):=⟨_,qI (fun k=>rfl)⟩;have Jk:Hid (∀ k,k≤d→(L k).length=4+64*n+32*k):=qI (fun k C=>by
  rw [P.o,XM,XM,Jg.o,G.o,Ma.o k (by rw [Gz.o];exact C)])
 have Jl:Hid (w6.ownsRow w2.heap.size 5 1 (.slice a6 (4+co.length) c6) (4+co.length) ((L 0).map bv)):=qI (by
  have y:=Ji.o;rw [P.o];simpa using y)
 have Jm:Hid (4+co.length=(L 0).length):=qI (by rw [Jk.o 0 (XB),G.o];rfl);have z3:=Jj.o.cell (X.o.cell (za (o:=3) v.o rfl) Wz) Wz;generalize 4+co.length=m0 at Jl Jm ⊢;clear Ji;go_wp2_with fail;clear z3;go_loopw [6,9,46] (fun t6 _ r wr=>∃ (k m:Nat) (a:Option Addr) (c:Nat),t6 = .slice a m c∧r = .int .i64 k∧k≤d∧m=(L k).length∧wr.ownsRow w2.heap.size 5 1 (.slice a m c) m ((L k).map bv)∧zb [] w2 wr) (fun _ _ r _=>d-(intOf r).toNat);case atStart=>exact⟨0,m0,a6,c6,rfl,rfl,XB,Jm.o,Jl.o,Jj.o⟩
 case round=>
  obtain⟨k,m,av,cv,rfl,rfl,C,hm,E,M⟩:=hrel;have W:=qI hm;have Jn:=qI E;have U:=qI M;clear hm E M;rcases Xr k d with hlt | hlt
  ·have af:(k:Int)<d:=by omega
   have Gh:=qI hlt;have p:k<s.way.length:=by rw [Gz.o];exact hlt
   obtain⟨g,o,rfl,-,l⟩:=jR Jz.o Ws;have Gi:Hid (wr.rangeAt g (o+k*32) (s.way[k].map bv)):=qI (row32 (l.kept (X.o.then U.o) Wz) I.o k p);have K:Hid (s.way[k].length=32):=qI (I.o _ (XX _));have Jb:Hid (L (k+1)=L k++s.way[k]):=qI (by rw [P.o,P.o,qv _ _ p,← Xv]);have Jo:Hid (m≤100000):=qI (by have y:=W.o;rw [Jk.o k C] at y;have:=Gg.o;omega);generalize s.way[k]=x at Gi K Jb;clear p hlt l;go_upto_region 9 with first
    | (refine yy Wk _ rfl (g:=g) (of:=o+k*32) Gi.o K.o Wk ?_)
    | (refine zH Wk (.tmp 9) (.tmp 49) Wk (g:=wr.heap.size) (l0:=ku zX 0) (zd rfl) (yp _ _) K.o Wk Wk ?_;intro w8 h8 B;have Gp:=qI h8;have Jc:Hid (zb [] wr w8):=qI (((zb.refl [] wr).alloc _).trans B (by intro i z;simp at z;subst z;exact .inr (XA)));clear h8 B;simp only [Act.put])
   have Me:Hid (Slc w8 1 (.slice (some ⟨wr.heap.size,0,none⟩) 32 32) 32 (x.map bv)):=qI ⟨by simp [K.o],.inr (.inr ⟨_,0,32,rfl,XA,Wo,⟨Gp.o.range,Gp.o.lt⟩⟩)⟩;have Jp:=qI (zk Jn.o Jc.o Wz);have Mf:Hid (w2.heap.size≤w8.heap.size):=qI (XH U.o.size Jc.o.size);go_wp2_with (at_builtin;refine zz vS Jp.o Me.o (qr _) (by have:=Jo.o;simp only [maxLen];omega) (XC Jo.o) Mf.o Wk _ _ rfl rfl rfl ?_;intro v9 w9 b J _ _;obtain⟨a9,c9,rfl,-,-⟩:=(Slc.of_row b).form;have Mg:=qI b;have Mh:Hid (zb [] w2 w9):=qI ((U.o.then Jc.o).trans J (fun i z=>.inr (Jp.o.lt i (XD z)).1));clear b J);case roundEnd=>exact⟨⟨k+1,m+32,a9,c9,rfl,by go_num,by have:=Gh.o;omega,by rw [Jb.o,XM,← W.o,K.o],by rw [Jb.o,Xc];exact Mg.o,Mh.o⟩,by have:=Gh.o;simp [intOf];omega⟩
  ·obtain rfl:k=d:=by omega
   have Jq:Hid (L k=xR s):=qI (by rw [P.o,Gy.o,Xl (by rw [Gz.o];exact XA)]);go_wp2;go_ret2;have y:=Slc.of_row Jn.o;rw [W.o,Jq.o] at y;refine⟨⟨av,cv,?_,y⟩,Y.o.then (X.o.then U.o)⟩;rw [W.o,Jq.o];rfl
attribute [local go_sem] Oper.semAt_some
theorem ones1_any (w:World):Calls prog 183 #[.int .u64 1] w fun e w'=>e = .returned (.int .i64 1)∧w=w':=by
 have a:Calls prog 231 #[.int .u64 1] w fun e w'=>e = .returned (.int .i64 1)∧w=w':=by go_enter func231,ntmps231;go_wp2;go_ret;exact⟨Wr,rfl⟩
 go_enter func183,ntmps183;go_wp2_with (go_at_call 231;refine a.mono ?_;rintro e w' ⟨rfl,rfl⟩);go_ret;exact⟨rfl,rfl⟩
theorem zbL (w:World):Calls prog 136 #[.int .i64 1] w fun e w'=>e = .returned (.bool true)∧w=w':=by
 have a:=ones1_any w;go_enter func136,ntmps136;go_wp2_with (go_at_call 183;refine a.mono ?_;rintro e w' ⟨rfl,rfl⟩);go_ret;exact⟨rfl,rfl⟩
structure Lev1 (w:World)(g:Nat)(x0:List UInt8):Prop where
 ex:∃ gb c2,w.cell? ⟨g,0,none⟩=some (.slice (some ⟨gb,0,none⟩) 1 c2)∧1≤c2∧w.rangeAt gb 0 (x0.map bv)
theorem one_row {c g:Nat}(h:w.ownsRow base 49 32 (.slice (some ⟨g,0,none⟩) 1 c) 1 (x0.map bv)):w.rangeAt g 0 (x0.map bv):=fun j v hv=>by
 have a:=h.1;have b:=(X6.1 hv).1;rw [Xd,h.cellAt j Ws,hv]
theorem zaB (r:x0.length=32)(i:Slc w 32 (.slice (some ⟨bk,off,none⟩) 1 cap) 1 (x0.map bv)) : Calls prog 91 #[.slice (some ⟨bk,off,none⟩) 1 cap] w fun e w'=>(∃ g,e = .returned (.tuple #[.slice (some ⟨g,0,none⟩) 1 1,.int .i64 0])∧Lev1 w' g x0)∧zb [] w w':=by
 have q:=zbL w;have t:=qI (clone32_any i (qr _) Wo);clear r i;go_enter func91,ntmps91;go_upto_region 3 with (go_at_call 136;refine q.mono ?_;rintro e w' ⟨rfl,rfl⟩);go_upto_region 4 with (go_at_call 137;refine t.o.mono ?_;rintro e w2 ⟨⟨a2,c2,rfl,l⟩,a⟩;have d:=qI l;have x:=qI a;clear l a);obtain⟨gb,rfl⟩:=own_zero d.o Wo;have n:=qI (own_cap d.o);have m:=qI (one_row d.o);obtain⟨f,b⟩:=XE (w2.alloc (.cells #[.slice (some ⟨gb,0,none⟩) 1 c2] 78));have k:Hid (zb [] w2 f):=qI (kA1 b.o);have h:f.cell? ⟨w2.heap.size,0,none⟩=some (.slice (some ⟨gb,0,none⟩) 1 c2):=by rw [b.o];exact za (o:=0) (zd rfl) rfl
 have u:=qI h;rw [← b.o];go_wp2_with fail;clear h;go_loopw [4,5] (fun s p wr=>s = .slice (some ⟨w2.heap.size,0,none⟩) 1 1∧p = .slice (some ⟨gb,0,none⟩) 1 c2∧f=wr) (fun _ _ _=>0);case atStart=>exact⟨rfl,rfl,rfl⟩
 case round=>obtain⟨rfl,rfl,rfl⟩:=hrel;go_wp2;go_ret2;exact⟨⟨_,rfl,⟨gb,c2,u.o,n.o.1,fun j v hv=>k.o.cell (m.o j v hv) Wz⟩⟩,x.o.then k.o⟩
theorem root1_any (h:x0.length=32)(q:Slc w 32 (.slice (some ⟨bk,off,none⟩) 1 cap) 1 (x0.map bv)) : zG w 47 #[.slice (some ⟨bk,off,none⟩) 1 cap] (.tuple #[.agg (x0.map bv).toArray,.int .i64 0]):=by
 obtain⟨m,k⟩:=XE (w.alloc (.cells z32 49));have s:Hid (zb [] w m):=qI (kA1 k.o);have C:Hid (yr m w.heap.size (ku zX 0)):=qI (by rw [k.o];exact zd rfl);have u:=qI (zaB h (q.k0 s.o));have j:Hid (x0.length=32):=qI h;clear h q;go_enter func47,ntmps47;go_upto_region 1 with fail;refine yZ k.o ?_;go_upto_region 4 with (go_at_call 91;refine u.o.mono ?_;rintro e w2 ⟨⟨g,rfl,n⟩,d⟩;have z:=qI n;have r:=qI d;clear n d);obtain⟨gb,c2,E,D,b⟩:=z.o.ex;have t:(1:Int)≤c2:=Ws;have A:=qI b;have y:=qI (C.o.k0 r.o);clear b;go_wp2_with first
  | (refine yy Wk _ rfl (g:=gb) (of:=0) A.o j.o Wk ?_)
  | (refine zH Wk (.tmp 2) (.tmp 22) Wk y.o (yp _ _) j.o Wk Wk ?_;intro w5 p a;have x:=qI p;have B:=qI a;clear p a)
 have f:=x.o.var j.o;refine bodyPost_ret (v:=.tuple #[.agg (x0.map bv).toArray,.int .i64 0]) (by simp only [results,results47];simp [f,Sem.run_bind,asAddr,Act.put]) rfl ⟨rfl,?_⟩;exact (s.o.then r.o).trans B.o (by intro i l;simp at l;subst l;exact .inr (XA))
theorem way1_any {g:Nat}(i:Nat) : Calls prog 185 #[.slice (some ⟨g,0,none⟩) 1 1,.int .i64 i] w fun e w'=>e = .returned (.slice none 0 0)∧w=w':=by
 go_enter func185,ntmps185;go_wp2_with fail;go_loopw [1,5,7,14] (fun d b _ a wr=>d = .int .i64 i∧b = .slice none 0 0∧a = .int .i64 0∧w=wr) (fun _ _ _ _ _=>0);case atStart=>exact⟨rfl,rfl,rfl,rfl⟩
 case round=>obtain⟨rfl,rfl,rfl,rfl⟩:=hrel;go_wp2;go_ret;exact⟨rfl,rfl⟩
theorem Way1_any (d:x0.length=32)(b:Slc w 32 (.slice (some ⟨bk,off,none⟩) 1 cap) 1 (x0.map bv)) : zG w 139 #[.slice (some ⟨bk,off,none⟩) 1 cap,.int .i64 0] (.tuple #[.slice none 0 0,.int .i64 0]):=by
 have f:=qI (zaB d b);have j:Hid (∀ w2 g,Calls prog 185 #[.slice (some ⟨g,0,none⟩) 1 1,.int .i64 0] w2 fun e h=>e = .returned (.slice none 0 0)∧w2=h):=qI (fun w2 g=>way1_any 0);clear d b;go_enter func139,ntmps139;go_wp2_with first
  | (go_at_call 91;refine f.o.mono ?_;rintro e w2 ⟨⟨g,rfl,-⟩,a⟩;have i:=qI a;clear a)
  | (go_at_call 185;refine (j.o _ _).mono ?_;rintro e k ⟨rfl,rfl⟩)
 go_ret2;exact⟨rfl,i.o⟩
end Go.Proofs.YtjccecajigmfkaaGreatDoor

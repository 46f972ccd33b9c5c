/- Parts of one proof, merged: XBH XBI XBJ XBK XBN XBO XHC. -/
import Derived.Test.YtjccecajigmfkaaGreatDoorSgZ
import Derived.Laws.OwnMore
set_option linter.all false
set_option maxHeartbeats 12800000
set_option maxRecDepth 100000
namespace Go.Proofs.YtjccecajigmfkaaGreatDoor
open Go.Proofs.Tryz
open Go.RowKit
attribute [local go_sem] Oper.semAt_some
variable {a1 a2:Option Addr}{base bk cap e n off size:Nat}{w:World}{x0:List UInt8}{xs:List Value}
structure UpAt (W:World)(g:Nat)(w:World)(a:Option Addr)(c:Nat)(ps:List (List UInt8)):Prop where
 kept:zb [g] W w
 box:w.heap[g]? = some (.cells #[.slice a ps.length c] 78 (0,0))
 row:w.ownsRow W.heap.size 49 32 (.slice a ps.length c) ps.length (ps.flatten.map bv)
structure UpR (nd:List UInt8)(W0:World)(gs:Nat)(pre:List (Fin 1))(W:World):Prop where
 val:∃ a c,UpAt W0 gs W a c (pre.map fun _=>nd)
 box0:∃ c f,W.heap[gs+1]? = some (.cells c 78 f)
 box1:∃ c f,W.heap[gs+2]? = some (.cells c 3 f)
attribute [local go_sem] Oper.semAt_some
@[go_sem] theorem eqlNil32 (w:World)(a:Option Addr)(n c:Nat):(binOp .eql 78 (.slice a n c) (.slice none 0 0)).run prog w = .ok (.bool a.isNone) w:=Lib.run_eql_slice_nil w _ _ a n c 0 0 underlying78
theorem clone32_any {j:Addr}{c:Nat}(h:Slc w 32 (.slice (some j) n c) n xs)(l:∀ u∈xs,u.oneCell'=true)(v:n≤1000000) : Calls prog 137 #[.slice (some j) n c] w fun e w'=>(∃ a c,e = .returned (.slice a n c)∧w'.ownsRow w.heap.size 49 32 (.slice a n c) n xs)∧zb [] w w':=by
 have k:=(zb.refl [] w).alloc (.cells #[] 49);have f:=Ki (size:=32) (base:=w.heap.size) (t:=49) w rfl (XA);have d:=h.k0 k;go_enter func137,ntmps137;go_wp2_with (at_builtin;refine zG ty32 f d l (by simp only [maxLen];omega) Ws Wz rfl _ _ rfl rfl rfl ?_;intro r s b i _ m);rw [Nat.zero_add,List.nil_append] at b;obtain⟨p,q,rfl,-,-⟩:=(Slc.of_row b).form;go_ret;exact⟨⟨_,_,rfl,b⟩,k.trans i (by simp [Value.ownBlock])⟩
attribute [local go_sem] Oper.semAt_some
structure Lev2 (w:World)(g:Nat)(x0 x1 nd:List UInt8):Prop where
 ex:∃ gb c2 gc oc c3,w.cell? ⟨g,0,none⟩=some (.slice (some ⟨gb,0,none⟩) 2 c2)∧w.cell? ⟨g,1,none⟩=some (.slice (some ⟨gc,oc,none⟩) 1 c3)∧w.rangeAt gb 0 (x0.map bv)∧w.rangeAt gb 32 (x1.map bv)∧w.rangeAt gc oc (nd.map bv)
theorem own_zero {c:Nat}{a:Option Addr}(h:w.ownsRow base e size (.slice a n c) n xs)(d:0<n):∃ g,a=some ⟨g,0,none⟩:=by
 rcases h.2 with ⟨-,f⟩ | ⟨g,cap,b,e,-⟩;·omega
 ·injection e with e1 e2 e3;exact⟨g,e1⟩
theorem own_cap {c g:Nat}(h:w.ownsRow base e size (.slice (some ⟨g,0,none⟩) n c) n xs):n≤c∧c≤maxLen:=by
 obtain⟨d,f,h3,b,a⟩:=(Slc.of_row h).form;simp only [Value.slice.injEq] at h3;obtain⟨-,-,rfl⟩:=h3;exact⟨b,a⟩
attribute [local go_sem] Oper.semAt_some
attribute [local go_sem] Oper.semAt_some
theorem pair_flat {o:Qz}(a:yT o.rev)(h2:yT o.oth)(d:o.oth.length=o.rev.length):∀ k,k≤o.rev.length→((List.range k).map (vi o)).flatten.length=64*k
 | 0,_=>rfl
 | k+1,hk=>by have h3:=vI a h2 d (b:=k) Ws;rw [bZ,List.length_append,pair_flat a h2 d k Ws,vi,List.length_append];omega
theorem lamEncode_any {s:Qz}{c1 c2:Nat}(U:s.rev.length=n)(G:s.oth.length=n)(f:yT s.rev)(l:yT s.oth)(N:Slc w 32 (.slice a1 n c1) n (s.rev.flatten.map bv))(E:Slc w 32 (.slice a2 n c2) n (s.oth.flatten.map bv))(q:xu n=true) : Calls prog 95 #[.agg #[.slice a1 n c1,.slice a2 n c2]] w fun e w'=>(∃ a c,e = .returned (.tuple #[.slice a (jZ s).length c,.int .i64 0])∧zp w' (.slice a (jZ s).length c) (jZ s))∧zb [] w w':=by
 have K:8≤n∧n≤256:=by unfold xu at q;simp only [Bool.and_eq_true,decide_eq_true_eq] at q;omega
 obtain⟨O,D,rfl,-,L⟩:=jC N Ws;obtain⟨u,y,rfl,-,M⟩:=jC E Ws;obtain⟨Q,Gb⟩:=XE (w.alloc (.cells #[.slice (some ⟨O,D,none⟩) n c1,.slice (some ⟨u,y,none⟩) n c2] 85));have X:Hid (zb [] w Q):=qI (kA1 Gb.o);have Gd:Hid (Q.heap[w.heap.size]? = some (.cells #[.slice (some ⟨O,D,none⟩) n c1,.slice (some ⟨u,y,none⟩) n c2] 85 (0,0))):=qI (by rw [Gb.o];exact ze rfl);have f0:=za (o:=0) Gd.o rfl;have C:=za (o:=1) Gd.o rfl;have CW:=qI (Kb Q (some ⟨O,D,none⟩) (some ⟨u,y,none⟩) n c1 c2 q);have Ge:=qI (L.kept X.o Wz);have Gf:=qI (M.kept X.o Wz);have Jr:Hid (∀ k,k≤n→(((List.range k).map (vi s)).flatten).length=64*k):=qI (fun k hk=>pair_flat f l Ws k Ws);have Js:Hid (jZ s=((List.range n).map (vi s)).flatten):=qI (by unfold jZ;rw [U]);have Jt:=qI U;have Ju:=qI G;have r:=qI (And.intro f l);have ae:(n:Int)≤256:=Ws;have Gg:=qI K;clear N E q L M f l U G K;go_enter func95,ntmps95;go_upto_region 1 with fail;refine xg Gb.o ?_;go_upto_region 3 with (go_at_call 141;refine CW.o.mono ?_;rintro e B ⟨rfl,J⟩;have W:=qI J;clear J);obtain⟨W4,Jf⟩:=XE (B.alloc (.cells #[.slice none 0 0] 125));have Gs:Hid (qG B B.heap.size W4 []):=qI (by rw [Jf.o];exact sumsNew B);have R:=(W.o.then Gs.o.kept).cell f0 Wz;clear f0;go_upto_region 4 with fail;rw [← Jf.o];generalize hp:B.heap.size=p at Gs;clear hp;go_wp2_with fail;go_loopw [5,6,15] (fun _ _ i wr=>∃ k:Nat,i = .int .i64 k∧k≤n∧qG B p wr ((List.range k).map (vi s)).flatten) (fun _ _ i _=>n-(intOf i).toNat);case atStart=>exact⟨0,rfl,XB,Gs.o⟩
 case round=>
  obtain⟨k,rfl,hk,m⟩:=hrel;have P:=qI m;clear m R;rcases Nat.lt_or_ge k n with h8 | h8
  ·have aa:(k:Int)<n:=by omega
   have Jv:=qI aa;have Gh:=qI h8;have Z:Hid (zb [] Q wr):=qI (W.o.then P.o.kept);have A:k<s.rev.length:=by rw [Jt.o];exact h8
   have z:k<s.oth.length:=by rw [Ju.o];exact h8
   have Gi:Hid (wr.rangeAt O (D+k*32) (s.rev[k].map bv)):=qI (row32 (Ge.o.kept Z.o Wz) r.o.1 k A);have Gj:Hid (wr.rangeAt u (y+k*32) (s.oth[k].map bv)):=qI (row32 (Gf.o.kept Z.o Wz) r.o.2 k z);have H:Hid (s.rev[k].length=32):=qI (r.o.1 _ (List.getElem_mem _));have Gu:Hid (s.oth[k].length=32):=qI (r.o.2 _ (List.getElem_mem _));have Gv:Hid (vi s k=s.rev[k]++s.oth[k]):=qI (by
    rw [vi,List.getD,List.getElem?_eq_getElem A,List.getD,List.getElem?_eq_getElem z];rfl)
   have Jw:=qI (bZ (vi s) k);have Jx:=qI (Jr.o k Ws);have C:=Z.o.cell C Wz;generalize s.rev[k]=x1 at Gi H Gv;generalize s.oth[k]=y1 at Gj Gu Gv;clear A z h8;go_upto_region 7 with first
    | (refine yC Wk _ rfl (g:=O) (of:=D+k*32) Gi.o H.o Wk ?_)
    | (refine zL Wk (.tmp 6) (.tmp 19) Wk (g:=wr.heap.size) (l0:=qS ya 0) (ze rfl) (yu _ _) H.o Wk Wk ?_;intro w4 h4 I;have Gp:=qI h4;have Gw:Hid (zb [] wr w4):=qI (((zb.refl [] wr).alloc _).trans I (by intro i hi;simp at hi;subst hi;exact .inr (XA)));clear h4 I;simp only [Act.put])
   have Jy:Hid (w4.rangeAt u (y+k*32) (y1.map bv)):=qI (fun j v hv=>Gw.o.cell (Gj.o j v hv) Wz);have C:=Gw.o.cell C Wz;have CA:Hid (∀ w3,zb [] w4 w3→Calls prog 87 #[.pointer (some ⟨p,0,none⟩),.agg (x1.map bv).toArray,.agg (y1.map bv).toArray] w3 fun e w'=>e = .returned (.tuple #[])∧qG B p w' ((List.range (k+1)).map (vi s)).flatten):=qI (fun w3 h=>by
    have h1:=bu (P.o.k0 (Gw.o.then h)) H.o Gu.o (XH Jx.o Gg.o);rw [Jw.o,Gv.o,← List.append_assoc];exact h1)
   go_wp2
   refine yz (n:=33) 7 [fI (.pointer (some ⟨p,0,none⟩)),
    fI (.agg (x1.map bv).toArray),
    fI (.pointer (some ⟨w.heap.size,1,none⟩)),
    fI (.slice (some ⟨u,y,none⟩) n c2),
    fI (.int .i64 k),
    fI (.pointer (some ⟨u,y+k*32,none⟩)),
    fI (.agg (y1.map bv).toArray)] Wr rfl Wr (fun x=>qm) ?_ ?_
   ·refine⟨?_,?_,?_,?_,?_,?_,?_,trivial⟩ <;> intro x w2 d b hd;·exact zi
    ·change wpList _ _ _ [_] _ _;refine yY Wk (.tmp 6) Wk (Gp.o.k0 d) H.o Wk ?_;exact⟨rfl,_,rfl,rfl,Wd⟩
    ·exact zi
    ·have d2:x 2=_:=hd 2 Wr;have y0:=d.cell C Wz;exact zi
    ·exact zi
    ·have d3:x 3=_:=hd 3 Wr;have d4:x 4=_:=hd 4 Wr;have ab:=Jv.o;exact zi
    ·have d5:x 5=_:=hd 5 Wr;have d5:x 5=_:=hd 5 Wr;change wpList _ _ _ [_] _ _;refine yC Wk _ rfl (g:=u) (of:=y+k*32) (fun j v hv=>d.cell (Jy.o j v hv) Wz) Gu.o d5 ?_;exact⟨rfl,_,rfl,rfl,Wd⟩
   ·intro x Y d ad hd F;have d0:x 0=_:=hd 0 Wo;have d1:x 1=_:=hd 1 Wo;have d6:x 6=_:=hd 6 Wo;have CX:=qI (CA.o Y d);clear hd F d;change wpList _ _ _ [_] _ _;go_wp2_with (go_at_call 87;refine CX.o.mono ?_;rintro e w9 ⟨rfl,m⟩;have Gx:=qI m;clear m);case roundEnd=>exact⟨⟨k+1,by go_num,by have:=Gh.o;omega,Gx.o⟩,by have:=Gh.o;simp [intOf];omega⟩
  ·obtain rfl:k=n:=by omega
   obtain⟨av,cv,hb,t⟩:=P.o.val;have Gl:=qI t;have e0:=za (o:=0) hb rfl;rw [← Js.o] at Gl e0;clear hb t;go_wp2;go_ret2;exact⟨⟨_,_,rfl,Slc.of_row Gl.o⟩,X.o.then (W.o.then P.o.kept)⟩
attribute [local go_sem] Oper.semAt_some
theorem way_flat {w:List (List UInt8)}(h:yT w)(k:Nat)(d:k≤w.length):(w.take k).flatten.length=32*k:=by
 have b:yT (w.take k):=fun x a=>h x (List.mem_of_mem_take a);rw [b.flat,List.length_take];omega
theorem sigEncode_any {s:SigS}{Y:Option Addr}{c1 c2 c3 d:Nat}(ae:s.leaf≤1073741824)(hn:s.one.rev.length=n)(F:s.one.oth.length=n)(P:s.way.length=d)(ag:d≤6)(t:yT s.one.rev)(q:yT s.one.oth)(u:yT s.way)(O:Slc w 32 (.slice a1 n c1) n (s.one.rev.flatten.map bv))(C:Slc w 32 (.slice a2 n c2) n (s.one.oth.flatten.map bv))(Q:Slc w 32 (.slice Y d c3) d (s.way.flatten.map bv))(h:xu n=true) : Calls prog 49 #[.agg #[.int .i64 s.leaf,.slice a1 n c1,.slice a2 n c2,.slice Y d c3]] w fun e w'=>(∃ a c,e = .returned (.tuple #[.slice a (xQ s).length c,.int .i64 0])∧zp w' (.slice a (xQ s).length c) (xQ s))∧zb [] w w':=by
 obtain⟨W1,Z⟩:=XE (w.alloc (.cells #[.int .i64 s.leaf,.slice a1 n c1,.slice a2 n c2,.slice Y d c3] 87));have U:Hid (zb [] w W1):=qI (kA1 Z.o);have z:Hid (zbr W1 w.heap.size s.leaf (.slice a1 n c1) (.slice a2 n c2) (.slice Y d c3)):=qI (by rw [Z.o];exact ze rfl);have K:n≤256:=by unfold xu at h;simp only [Bool.and_eq_true,decide_eq_true_eq] at h;omega
 have CE:=qI (lamEncode_any hn F t q (O.k0 U.o) (C.k0 U.o) h);have CP:Hid (∀ w2,Calls prog 96 #[.int .i64 s.leaf,.int .i64 4] w2 _):=qI (fun w2=>QZ s.leaf 4 w2 Wo Wo (.inr Ws));have Jz:=qI (Q.k0 U.o);have E:Hid ((jZ s.one).length=64*n):=qI (by rw [K9 t q Ws,hn]);have Gy:Hid (xQ s=jN s.leaf 4++jZ s.one++s.way.flatten):=qI rfl;have Jg:Hid ((jN s.leaf 4).length=4):=qI (xB _ _);have H:=qI u;have Gz:=qI P;have Gg:=qI K;have Ma:=qI (fun k B=>way_flat u k B);have ab:(s.leaf:Int)≤1073741824:=Ws;have ai:(d:Int)≤6:=Ws;have aa:decide ((1073741824:Int)<(s.leaf:Int))=false:=decide_eq_false Ws;have ah:decide ((6:Int)<(d:Int))=false:=decide_eq_false Ws;clear hn F P t q u O C Q h K;generalize jZ s.one=co at CE E Gy;generalize jN s.leaf 4=pl at CP Gy Jg;generalize s.leaf=lf at Z z CP ab aa ae ⊢;have f0:=za (o:=0) z.o rfl;have f1:=za (o:=1) z.o rfl;have f2:=za (o:=2) z.o rfl;have f3:=za (o:=3) z.o rfl;go_enter func49,ntmps49;go_upto_region 1 with fail;refine xg Z.o ?_;go_upto_region 4 with (go_at_call 95;refine CE.o.mono ?_;rintro e w2 ⟨⟨a4,c4,rfl,hb⟩,j⟩;have y0:=j.cell f0 Wz;have y3:=j.cell f3 Wz;have Mb:=qI hb;have R:=qI j;clear j hb f0 f1 f2 f3);go_upto_region 5 with (go_at_call 96;refine (CP.o _).mono ?_;rintro e w3 ⟨a5,c5,rfl,ho,f⟩;have z3:=f.cell y3 Wz;have Jh:=qI ho;have Mc:=qI (Slc.k0 Mb.o f);have Ja:=qI (R.o.then f);have Md:=qI f.size;have ad:=qI f;clear f ho y0 y3);go_upto_region 6 with (at_builtin;refine zG vC Jh.o Mc.o (qE _) (by have:=E.o;have:=Gg.o;simp only [maxLen];omega) (XH E.o Gg.o) Md.o Wk _ _ rfl rfl rfl ?_;intro v6 w6 b D _ _;obtain⟨a6,c6,rfl,-,-⟩:=(Slc.of_row b).form;have Ji:=qI b;have Jj:Hid (zb [] w2 w6):=qI ((ad.o).trans D (fun i y=>.inr (Jh.o.lt i (XD y)).1));clear b D);obtain⟨L,G⟩:∃ L:Nat→List UInt8,Hid (∀ k,L k=pl++co++(s.way.take k).flatten):=⟨_,qI (fun k=>rfl)⟩;have Jk:Hid (∀ k,k≤d→(L k).length=4+64*n+32*k):=qI (fun k B=>by
  rw [G.o,List.length_append,List.length_append,Jg.o,E.o,Ma.o k (by rw [Gz.o];exact B)])
 have Jl:Hid (w6.ownsRow w2.heap.size 5 1 (.slice a6 (4+co.length) c6) (4+co.length) ((L 0).map bv)):=qI (by
  have v:=Ji.o;rw [G.o];simpa using v)
 have Jm:Hid (4+co.length=(L 0).length):=qI (by rw [Jk.o 0 (XB),E.o];rfl);have z3:=Jj.o.cell (R.o.cell (za (o:=3) z.o rfl) Wz) Wz;generalize 4+co.length=m0 at Jl Jm ⊢;clear Ji;go_wp2_with fail;clear z3;go_loopw [6,9,46] (fun t6 _ p wr=>∃ (k m:Nat) (a:Option Addr) (c:Nat),t6 = .slice a m c∧p = .int .i64 k∧k≤d∧m=(L k).length∧wr.ownsRow w2.heap.size 5 1 (.slice a m c) m ((L k).map bv)∧zb [] w2 wr) (fun _ _ p _=>d-(intOf p).toNat);case atStart=>exact⟨0,m0,a6,c6,rfl,rfl,XB,Jm.o,Jl.o,Jj.o⟩
 case round=>
  obtain⟨k,m,av,cv,rfl,rfl,B,hm,J,N⟩:=hrel;have X:=qI hm;have Jn:=qI J;have W:=qI N;clear hm J N;rcases Nat.lt_or_ge k d with hlt | hlt
  ·have af:(k:Int)<d:=by omega
   have Gh:=qI hlt;have r:k<s.way.length:=by rw [Gz.o];exact hlt
   obtain⟨g,o,rfl,-,l⟩:=jC Jz.o Ws;have Gi:Hid (wr.rangeAt g (o+k*32) (s.way[k].map bv)):=qI (row32 (l.kept (R.o.then W.o) Wz) H.o k r);have I:Hid (s.way[k].length=32):=qI (H.o _ (List.getElem_mem _));have Jb:Hid (L (k+1)=L k++s.way[k]):=qI (by rw [G.o,G.o,qr _ _ r,← List.append_assoc]);have Jo:Hid (m≤100000):=qI (by have v:=X.o;rw [Jk.o k B] at v;have:=Gg.o;omega);generalize s.way[k]=x at Gi I Jb;clear r hlt l;go_upto_region 9 with first
    | (refine yC Wk _ rfl (g:=g) (of:=o+k*32) Gi.o I.o Wk ?_)
    | (refine zL Wk (.tmp 9) (.tmp 49) Wk (g:=wr.heap.size) (l0:=qS ya 0) (ze rfl) (yu _ _) I.o Wk Wk ?_;intro w8 h8 A;have Gp:=qI h8;have Jc:Hid (zb [] wr w8):=qI (((zb.refl [] wr).alloc _).trans A (by intro i y;simp at y;subst y;exact .inr (XA)));clear h8 A;simp only [Act.put])
   have Me:Hid (Slc w8 1 (.slice (some ⟨wr.heap.size,0,none⟩) 32 32) 32 (x.map bv)):=qI ⟨by simp [I.o],.inr (.inr ⟨_,0,32,rfl,XA,Wo,⟨Gp.o.range,Gp.o.lt⟩⟩)⟩;have Jp:=qI (zk Jn.o Jc.o Wz);have Mf:Hid (w2.heap.size≤w8.heap.size):=qI (XH W.o.size Jc.o.size);go_wp2_with (at_builtin;refine zG vC Jp.o Me.o (qE _) (by have:=Jo.o;simp only [maxLen];omega) (XC Jo.o) Mf.o Wk _ _ rfl rfl rfl ?_;intro v9 w9 b M _ _;obtain⟨a9,c9,rfl,-,-⟩:=(Slc.of_row b).form;have Mg:=qI b;have Mh:Hid (zb [] w2 w9):=qI ((W.o.then Jc.o).trans M (fun i y=>.inr (Jp.o.lt i (XD y)).1));clear b M);case roundEnd=>exact⟨⟨k+1,m+32,a9,c9,rfl,by go_num,by have:=Gh.o;omega,by rw [Jb.o,List.length_append,← X.o,I.o],by rw [Jb.o,List.map_append];exact Mg.o,Mh.o⟩,by have:=Gh.o;simp [intOf];omega⟩
  ·obtain rfl:k=d:=by omega
   have Jq:Hid (L k=xQ s):=qI (by rw [G.o,Gy.o,List.take_of_length_le (by rw [Gz.o];exact XA)]);go_wp2;go_ret2;have v:=Slc.of_row Jn.o;rw [X.o,Jq.o] at v;refine⟨⟨av,cv,?_,v⟩,U.o.then (R.o.then W.o)⟩;rw [X.o,Jq.o];rfl
attribute [local go_sem] Oper.semAt_some
theorem ones1_any (w:World):Calls prog 183 #[.int .u64 1] w fun e w'=>e = .returned (.int .i64 1)∧w=w':=by
 have a:Calls prog 231 #[.int .u64 1] w fun e w'=>e = .returned (.int .i64 1)∧w=w':=by go_enter func231,ntmps231;go_wp2;go_ret;exact⟨Wr,rfl⟩
 go_enter func183,ntmps183;go_wp2_with (go_at_call 231;refine a.mono ?_;rintro e w' ⟨rfl,rfl⟩);go_ret;exact⟨rfl,rfl⟩
theorem zby (w:World):Calls prog 136 #[.int .i64 1] w fun e w'=>e = .returned (.bool true)∧w=w':=by
 have a:=ones1_any w;go_enter func136,ntmps136;go_wp2_with (go_at_call 183;refine a.mono ?_;rintro e w' ⟨rfl,rfl⟩);go_ret;exact⟨rfl,rfl⟩
structure Lev1 (w:World)(g:Nat)(x0:List UInt8):Prop where
 ex:∃ gb c2,w.cell? ⟨g,0,none⟩=some (.slice (some ⟨gb,0,none⟩) 1 c2)∧1≤c2∧w.rangeAt gb 0 (x0.map bv)
theorem one_row {c g:Nat}(h:w.ownsRow base 49 32 (.slice (some ⟨g,0,none⟩) 1 c) 1 (x0.map bv)):w.rangeAt g 0 (x0.map bv):=fun j v hv=>by
 have a:=h.1;have b:=(List.getElem?_eq_some_iff.1 hv).1;rw [Nat.zero_add,h.cellAt j Ws,hv]
theorem J6 (x:x0.length=32)(i:Slc w 32 (.slice (some ⟨bk,off,none⟩) 1 cap) 1 (x0.map bv)) : Calls prog 91 #[.slice (some ⟨bk,off,none⟩) 1 cap] w fun e w'=>(∃ g,e = .returned (.tuple #[.slice (some ⟨g,0,none⟩) 1 1,.int .i64 0])∧Lev1 w' g x0)∧zb [] w w':=by
 have p:=zby w;have t:=qI (clone32_any i (qE _) Wo);clear x i;go_enter func91,ntmps91;go_upto_region 3 with (go_at_call 136;refine p.mono ?_;rintro e w' ⟨rfl,rfl⟩);go_upto_region 4 with (go_at_call 137;refine t.o.mono ?_;rintro e w2 ⟨⟨a2,c2,rfl,k⟩,a⟩;have f:=qI k;have n:=qI a;clear k a);obtain⟨gb,rfl⟩:=own_zero f.o Wo;have m:=qI (own_cap f.o);have s:=qI (one_row f.o);obtain⟨b,d⟩:=XE (w2.alloc (.cells #[.slice (some ⟨gb,0,none⟩) 1 c2] 78));have h:Hid (zb [] w2 b):=qI (kA1 d.o);have l:b.cell? ⟨w2.heap.size,0,none⟩=some (.slice (some ⟨gb,0,none⟩) 1 c2):=by rw [d.o];exact za (o:=0) (ze rfl) rfl
 have r:=qI l;rw [← d.o];go_wp2_with fail;clear l;go_loopw [4,5] (fun u q wr=>u = .slice (some ⟨w2.heap.size,0,none⟩) 1 1∧q = .slice (some ⟨gb,0,none⟩) 1 c2∧b=wr) (fun _ _ _=>0);case atStart=>exact⟨rfl,rfl,rfl⟩
 case round=>obtain⟨rfl,rfl,rfl⟩:=hrel;go_wp2;go_ret2;exact⟨⟨_,rfl,⟨gb,c2,r.o,m.o.1,fun j v hv=>h.o.cell (s.o j v hv) Wz⟩⟩,n.o.then h.o⟩
theorem root1_any (k:x0.length=32)(m:Slc w 32 (.slice (some ⟨bk,off,none⟩) 1 cap) 1 (x0.map bv)) : zJ w 47 #[.slice (some ⟨bk,off,none⟩) 1 cap] (.tuple #[.agg (x0.map bv).toArray,.int .i64 0]):=by
 obtain⟨s,j⟩:=XE (w.alloc (.cells z32 49));have q:Hid (zb [] w s):=qI (kA1 j.o);have t:Hid (yy s w.heap.size (qS ya 0)):=qI (by rw [j.o];exact ze rfl);have x:=qI (J6 k (m.k0 q.o));have h:Hid (x0.length=32):=qI k;clear k m;go_enter func47,ntmps47;go_upto_region 1 with fail;refine xg j.o ?_;go_upto_region 4 with (go_at_call 91;refine x.o.mono ?_;rintro e w2 ⟨⟨g,rfl,p⟩,d⟩;have C:=qI p;have n:=qI d;clear p d);obtain⟨gb,c2,E,u,f⟩:=C.o.ex;have B:(1:Int)≤c2:=Ws;have z:=qI f;have A:=qI (t.o.k0 n.o);clear f;go_wp2_with first
  | (refine yC Wk _ rfl (g:=gb) (of:=0) z.o h.o Wk ?_)
  | (refine zL Wk (.tmp 2) (.tmp 22) Wk A.o (yu _ _) h.o Wk Wk ?_;intro F l b;have D:=qI l;have y:=qI b;clear l b)
 have a:=D.o.var h.o;refine bodyPost_ret (v:=.tuple #[.agg (x0.map bv).toArray,.int .i64 0]) (by simp only [results,results47];simp [a,Sem.run_bind,asAddr,Act.put]) rfl ⟨rfl,?_⟩;exact (q.o.then n.o).trans y.o (by intro i r;simp at r;subst r;exact .inr (XA))
theorem way1_any {g:Nat}(i:Nat) : Calls prog 185 #[.slice (some ⟨g,0,none⟩) 1 1,.int .i64 i] w fun e w'=>e = .returned (.slice none 0 0)∧w=w':=by
 go_enter func185,ntmps185;go_wp2_with fail;go_loopw [1,5,7,14] (fun d b _ a wr=>d = .int .i64 i∧b = .slice none 0 0∧a = .int .i64 0∧w=wr) (fun _ _ _ _ _=>0);case atStart=>exact⟨rfl,rfl,rfl,rfl⟩
 case round=>obtain⟨rfl,rfl,rfl,rfl⟩:=hrel;go_wp2;go_ret;exact⟨rfl,rfl⟩
theorem Way1_any (d:x0.length=32)(b:Slc w 32 (.slice (some ⟨bk,off,none⟩) 1 cap) 1 (x0.map bv)) : zJ w 139 #[.slice (some ⟨bk,off,none⟩) 1 cap,.int .i64 0] (.tuple #[.slice none 0 0,.int .i64 0]):=by
 have h:=qI (J6 d b);have f:Hid (∀ w2 g,Calls prog 185 #[.slice (some ⟨g,0,none⟩) 1 1,.int .i64 0] w2 fun e j=>e = .returned (.slice none 0 0)∧w2=j):=qI (fun w2 g=>way1_any 0);clear d b;go_enter func139,ntmps139;go_wp2_with first
  | (go_at_call 91;refine h.o.mono ?_;rintro e w2 ⟨⟨g,rfl,-⟩,a⟩;have i:=qI a;clear a)
  | (go_at_call 185;refine (f.o _ _).mono ?_;rintro e k ⟨rfl,rfl⟩)
 go_ret2;exact⟨rfl,i.o⟩
end Go.Proofs.YtjccecajigmfkaaGreatDoor

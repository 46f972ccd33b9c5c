/- Parts of one proof, merged: XHI XEH XSa XHK. -/
import Derived.Test.YtjccecajigmfkaaGreatDoorSgAI
import Derived.Test.YtjccecajigmfkaaGreatDoorSgAJ
set_option linter.all false
set_option maxHeartbeats 12800000
set_option maxRecDepth 100000
namespace Go.Proofs.YtjccecajigmfkaaGreatDoor
open Go.Proofs.Tryz
open Go.RowKit
attribute [local go_sem] Oper.semAt_some
variable {a b:Option Addr}{d:Nat}{l la lb:List yh}{α:Type}
def val1Fact (n:Nat)(v:V n):kM (zb []):=⟨fun u _ w=>∃ g k m s p i c q j d,u = .slice (some ⟨g,0,none⟩) 1 1∧Slc w 5 (.slice (some ⟨g,0,none⟩) 1 1) 1 [.int .i64 k,.int .i64 m,.string s,.slice p i c,.slice q j d]∧Rep n (fun _=>True) w [.int .i64 k,.int .i64 m,.string s,.slice p i c,.slice q j d] v,
 fun _ _ _ _ ⟨g,k,m,s,p,i,c,q,j,d,h1,h2,h3⟩ kk=>⟨g,k,m,s,p,i,c,q,j,d,h1,h2.k0 kk,h3.k0 kk⟩⟩
def pair2Fact (n:Nat)(k1:ByteArray)(v1:V n)(k2:ByteArray)(v2:V n):kM (zb []):=⟨fun u _ w=>∃ g c1 c2,u = .slice (some ⟨g,0,none⟩) 2 2∧Slc w 6 (.slice (some ⟨g,0,none⟩) 2 2) 2 (zZ [(k1,c1),(k2,c2)])∧Rep n (fun _=>True) w c1 v1∧Rep n (fun _=>True) w c2 v2,
 fun _ _ _ _ ⟨g,c1,c2,h1,h2,h3,h4⟩ kk=>⟨g,c1,c2,h1,h2.k0 kk,h3.k0 kk,h4.k0 kk⟩⟩
def encFact (t:List UInt8)(z:Int):kM (zb []):=⟨fun u _ w=>∃ q d,u = .tuple #[.slice q t.length d,.int .i64 z]∧zp w (.slice q t.length d) t,fun _ _ _ _ ⟨q,d,h1,h2⟩ k=>⟨q,d,h1,h2.k0 k⟩⟩
theorem QH {S:Nat→Prop}{w:World}{cs:List Value}{v:V 11}{c:Nat}(h:Env 11 S w cs v a c l)(hm:yf 11 v l=true)(hl:l.length≤1)(R:zP 12 (qg v l))(ht:xH w) : Calls prog 16 #[.agg (YJ cs a l.length c).toArray] w fun e w'=>(∃ q d,e = .returned (.tuple #[.slice q (xR 12 (qg v l)).1.length d,.int .i64 (xR 12 (qg v l)).2])∧zp w' (.slice q (xR 12 (qg v l)).1.length d) (xR 12 (qg v l)).1)∧zb [] w w':=by
 obtain⟨kd,N,st,Q,U,O,p2,P,W,rfl⟩:=h.rep.conv;obtain⟨W1,Gc⟩:=XE (w.alloc (.cells #[.int .i64 kd,.int .i64 N,.string st,.slice Q U O,.slice p2 P W,.slice a l.length c] 28));have Ge:Hid (zb [] w W1):=qI (kA1 Gc.o);have Ga:Hid (jG W1 w.heap.size kd N st (.slice Q U O) (.slice p2 P W) (.slice a l.length c)):=qI (by rw [Gc.o];exact ze rfl);have HE:=qI (h.k0 Ge.o);have HT:=qI (ht.k0 Ge.o);have CM:Hid (zJ W1 21 #[.agg #[.int .i64 kd,.int .i64 N,.string st,.slice Q U O,.slice p2 P W,.slice a l.length c]] (.bool true)):=qI (by have h1:=qF HE.o HT.o;rw [hm] at h1;exact h1);have Jf:Hid (zP 12 (qg v l)):=qI R;have CE:Hid (∀ w2 ab (S:Nat→Prop),zb [] W1 w2→Rep 12 S w2 ab (qg v l)→Calls prog 56 #[.agg ab.toArray] w2 fun e w'=>(∃ q d,e = .returned (.tuple #[.slice q (xR 12 (qg v l)).1.length d,.int .i64 (xR 12 (qg v l)).2])∧zp w' (.slice q (xR 12 (qg v l)).1.length d) (xR 12 (qg v l)).1)∧zb [] w2 w'):=qI (fun w2 ab S M hr=>ZU hr R Wo (HT.o.k0 M));have Jg:Hid (zP 11 (ju (l.map jD):VS (V 10))):=qI (zP.kid (v:=(qg v l:VS (V 11))) R (by exact List.mem_cons_self));have Gv:Hid (∀ r,r∈l→zP 10 (jD r)):=qI (fun r hr=>zP.kid (v:=(ju (l.map jD):VS (V 10))) Jg.o (by simp only [ju,VS.kids,List.map_nil,List.append_nil];exact List.mem_map_of_mem hr));have Gs:Hid ((vf [(Z8,(ju (l.map jD):VS (V 10))),(zan,v)]:VS (V 11))=qg v l):=qI rfl;have aw:=fun r=>show (vf [(K1,(q8 r.id:VS (V 8))),(K0,(q8 r.sig:VS (V 8)))]:VS (V 9))=jD r from rfl
 have Gw:Hid (∀ r l',l=r::l'→∃ g o,a=some ⟨g,o,none⟩∧∀ w2,zb [] W1 w2→w2.cell? ⟨g,o,none⟩=some (.string r.id)∧w2.cell? ⟨g,o+1,none⟩=some (.string r.sig)):=qI (fun r l' e=>by
  subst e;obtain⟨g,o,h1,-,-,h2⟩:=HE.o.rows.cells Wz;exact⟨g,o,h1,fun w2 M=>⟨M.cell (by have:=h2 0 Wz 0 _ rfl;simpa using this) Wz,M.cell (by have:=h2 0 Wz 1 _ rfl;simpa using this) Wz⟩⟩)
 have Gx:=qI (HE.o.rep);have ao:(l.length:Int)≤1:=Ws;have Jh:=qI hl;clear h hm R ht hl;obtain⟨X1,Ji⟩:∃ X1:V 11,Hid (X1=(ju (l.map jD):VS (V 10))):=⟨_,qI rfl⟩;rw [← Ji.o] at Gs;generalize qg v l=X at CE Jf Gs ⊢;generalize xR 12 X=tz at CE ⊢;obtain⟨t,z⟩:=tz;simp only at CE ⊢;generalize af:l.length=m at Gc Ga CM ao Jh ⊢;have HM:=qI af;clear af;show Calls _ _ #[.agg #[.int .i64 kd,.int .i64 N,.string st,.slice Q U O,.slice p2 P W,.slice a m c]] _ _;obtain⟨c0,c1,c2,c3,c4,c5⟩:=yS Ga.o;go_enter func16,ntmps16;go_upto_region 1 with fail;rw [← Gc.o];go_upto_region 4 with (go_at_call 21;refine CM.o.mono ?_;rintro e w2 ⟨rfl,ad⟩;have Gb:=qI ad;have z5:=ad.cell c5 Wz;clear ad c0 c1 c2 c3 c4 c5);go_wp2_with fail;clear z5;go_loopw [4,6,13] (fun q _ i wr=>∃ (k:Nat) (a':Option Addr) (c':Nat) (lcs:List (List Value)),i = .int .i64 k∧k≤m∧q = .slice a' k c'∧(k=0→a'=none∧c'=0)∧Slc wr 5 (.slice a' k c') k lcs.flatten∧zM (Rep 10 (fun _=>True) wr) lcs ((l.take k).map jD)∧zb [] W1 wr) (fun _ _ i _=>m-(intOf i).toNat);case atStart=>exact⟨0,none,0,[],rfl,XB,rfl,fun _=>⟨rfl,rfl⟩,xX _ _,zM.nil _,Gb.o⟩
 case round=>
  obtain⟨k,a',c',lcs,rfl,M,rfl,hz,Y,Z,al⟩:=hrel;have Gy:=qI Y;have Gz:=qI Z;have Gl:=qI al;clear Y Z al;by_cases aa:k<m
  ·obtain rfl:k=0:=XC Jh.o;obtain⟨rfl,rfl⟩:=hz rfl;clear hz M;have av:(0:Int)<m:=Ws;obtain⟨r,l',rfl⟩:∃ r l',l=r::l':=List.exists_cons_of_length_pos (by rw [HM.o];exact aa);obtain⟨g,o,rfl,I⟩:=Gw.o r l' rfl;obtain⟨q0,q1⟩:=I wr Gl.o;have Gv:=qI (Gv.o r Wz);clear I;have Gn:=qI aa;clear aa;go_upto_region 7 with fail;obtain⟨W5,Ja⟩:=XE (wr.alloc (.cells #[.string r.id,.string r.sig] 38));have H:Hid (zb [] W1 W5):=qI (by rw [Ja.o];exact Gl.o.alloc _);have H2:Hid (W5.heap[wr.heap.size]? = some (.cells #[.string r.id,.string r.sig] 38 (0,0))):=qI (by rw [Ja.o];exact ze rfl);refine xg Ja.o ?_;generalize wr.heap.size=rb at H2 ⊢
   refine bM (n:=42) 12 [fI (.slice none 0 0),
    fI (.pointer (some ⟨rb,0,none⟩)),
    fI (.string r.id),
    fI (.agg #[.int .i64 4,.int .i64 0,.string r.id,.slice none 0 0,.slice none 0 0]),
    fI (.agg #[.string K1,.int .i64 4,.int .i64 0,.string r.id,.slice none 0 0,.slice none 0 0]),
    fI (.pointer (some ⟨rb,1,none⟩)),
    fI (.string r.sig),
    fI (.agg #[.int .i64 4,.int .i64 0,.string r.sig,.slice none 0 0,.slice none 0 0]),
    fI (.agg #[.string K0,.int .i64 4,.int .i64 0,.string r.sig,.slice none 0 0,.slice none 0 0]),
    kP [.string K1,.int .i64 4,.int .i64 0,.string r.id,.slice none 0 0,.slice none 0 0,.string K0,.int .i64 4,.int .i64 0,.string r.sig,.slice none 0 0,.slice none 0 0] 2 6,
    KJ 10 (jD r),
    val1Fact 10 (jD r)] Wr rfl Wr (fun x=>qm) (fun x hx=>by rw [show x 13 = .slice none 0 0 from hx 13 Wo Wo]) ?_ ?_
   ·refine⟨?_,?_,?_,?_,?_,?_,?_,?_,?_,?_,?_,?_,trivial⟩ <;> intro x w2 f b hd;·exact zi
    ·exact zi
    ·have d1:x 1=_:=hd 1 Wr;have y0:=f.cell (za (o:=0) H2.o rfl) Wz;exact zi
    ·have d2:x 2=_:=hd 2 Wr;have E:=j9 r.id w2;go_wp2_with (go_at_call 55;refine E.mh ?_;rintro e w5 rfl H);exact⟨rfl,H.o⟩
    ·have d3:x 3=_:=hd 3 Wr;exact zi
    ·exact zi
    ·have d5:x 5=_:=hd 5 Wr;have y0:=f.cell (za (o:=1) H2.o rfl) Wz;exact zi
    ·have d6:x 6=_:=hd 6 Wr;have E:=j9 r.sig w2;go_wp2_with (go_at_call 55;refine E.mh ?_;rintro e w5 rfl H);exact⟨rfl,H.o⟩
    ·have d7:x 7=_:=hd 7 Wr;exact zi
    ·have d4:x 4=_:=hd 4 Wr;have d8:x 8=_:=hd 8 Wr;go_wp2;exact⟨⟨w2.heap.size,rfl,XA,Wz,yv w2 [.string K1,.int .i64 4,.int .i64 0,.string r.id,.slice none 0 0,.slice none 0 0,.string K0,.int .i64 4,.int .i64 0,.string r.sig,.slice none 0 0,.slice none 0 0] 6 2 _ _ rfl rfl Wo⟩,Wd.alloc _⟩
    ·obtain⟨g9,d9,-,-,ae⟩:=hd 9 Wr;have E:=ZG (n:=9) (S:=fun _=>True) (w:=w2) (m:=[(K1,(q8 r.id:VS (V 8))),(K0,(q8 r.sig:VS (V 8)))]) (mcs:=[(K1,[.int .i64 4,.int .i64 0,.string r.id,.slice none 0 0,.slice none 0 0]),(K0,[.int .i64 4,.int .i64 0,.string r.sig,.slice none 0 0,.slice none 0 0])]) (a:=some ⟨g9,0,none⟩) (c:=2) ae (zM.cons ⟨rfl,bS (n:=8) _ _ _⟩ (zM.cons ⟨rfl,bS (n:=8) _ _ _⟩ (zM.nil _))) Gv.o;change Calls _ _ #[.slice (some ⟨g9,0,none⟩) 2 2] _ _ at E;clear ae;go_wp2_with (go_at_call 54;refine E.mono ?_;rintro e w5 ⟨s,j⟩;obtain⟨D,m3,C,p3,B,c3,F,A,y,rfl,ho3⟩:=vo s;have Gm:=qI ho3;have H:=qI j;clear j ho3 s);exact⟨⟨_,_,_,_,_,_,_,_,_,rfl,Gm.o⟩,H.o⟩
    ·obtain⟨D,m3,C,p3,B,c3,F,A,y,ar,p⟩:=hd 10 Wr;have Gp:=qI (Rep.mono (T:=fun _=>True) p.rep (fun _ _ _=>trivial));clear p;go_wp2_with fail;have G:=(zb.refl [] w2).alloc (.cells #[.int .i64 D,.int .i64 m3,.string C,.slice p3 B c3,.slice F A y] 25);exact⟨⟨w2.heap.size,D,m3,C,p3,B,c3,F,A,y,rfl,yv w2 [.int .i64 D,.int .i64 m3,.string C,.slice p3 B c3,.slice F A y] 5 1 _ _ rfl rfl Wo,Gp.o.k0 G⟩,G⟩
   ·intro x w6 f b hd J;have d0:x 0=_:=hd 0 Wo;obtain⟨gx,D,m3,C,p3,B,c3,F,A,y,ap,aj,am⟩:=hd 11 Wo;have Jb:=qI f;have Jm:=qI aj;have Jn:=qI am;clear hd J f aj am;change wpList _ _ _ [_,_] _ _;go_wp2_with (at_builtin;refine zG QQ (base:=w6.heap.size) (v:=.slice none 0 0) (n:=0) (xs:=[]) (World.ownsRow_nil _ _ _ _) Jm.o (by intro u hu;simp only [List.mem_cons,List.not_mem_nil,or_false] at hu;rcases hu with rfl | rfl | rfl | rfl | rfl <;> rfl) Wo Wo (XA) rfl _ _ rfl d0 ap ?_;intro v7 w7 K L _ aq;obtain⟨a7,c7,rfl,-,-⟩:=(Slc.of_row K).form;have Jc:=qI (Slc.of_row K);have Jd:=qI L;clear K L aq);case roundEnd=>have L:zb [] w6 w7:=Jd.o.mono (by simp [Value.ownBlock]);exact⟨⟨1,a7,c7,[[.int .i64 D,.int .i64 m3,.string C,.slice p3 B c3,.slice F A y]],rfl,Gn.o,rfl,fun h=>absurd h Wo,Jc.o,zM.cons (Jn.o.k0 L) (zM.nil _),(H.o.then Jb.o).then L⟩,by have:=Gn.o;simp [intOf];omega⟩
  ·obtain rfl:k=m:=by omega
   clear hz M;have ax:¬ (k:Int)<k:=Ws;have CL:Hid (∀ w2,zb [] wr w2→Calls prog 57 #[.slice a' k c'] w2 fun e w'=>New 11 w2 w' e X1∧zb [] w2 w'):=qI (fun w2 M=>by
    have h0:=Gz.o;rw [List.take_of_length_le (XC HM.o)] at h0;have h1:=valList_any (n:=10) (S:=fun _=>True) (w:=w2) (l:=l.map jD) (lcs:=lcs) (a:=a') (c:=c') (by rw [List.length_map,HM.o];exact Gy.o.k0 M) (h0.mono fun _ _ _ r=>r.k0 M) Jg.o;rw [List.length_map,HM.o] at h1;rw [Ji.o];exact h1)
   have Gq:=qI (Gl.o.heap Ga.o Wz);have Gx:=qI (Gx.o.k0 Gl.o);have Jo:=Gl;go_upto_region 9 with fail
   refine yz (n:=42) 11 [fI (.slice a' k c'),
    KJ 11 X1,
    pairRepFact 11 Z8 X1,
    fI (.pointer (some ⟨w.heap.size,0,none⟩)),
    fI (.agg #[.int .i64 kd,.int .i64 N,.string st,.slice Q U O,.slice p2 P W]),
    fI (.agg #[.string zan,.int .i64 kd,.int .i64 N,.string st,.slice Q U O,.slice p2 P W]),
    pair2Fact 11 Z8 X1 zan v,
    KJ 12 X,
    encFact t z,
    JM t,
    fI (.int .i64 z)] Wr rfl Wr (fun x=>qm) ?_ ?_
   ·refine⟨?_,?_,?_,?_,?_,?_,?_,?_,?_,?_,?_,trivial⟩ <;> intro x w2 f b hd;·exact zi
    ·have d0:x 0=_:=hd 0 Wr;have E:=CL.o w2 f;go_wp2_with (go_at_call 57;refine E.mono ?_;rintro e w5 ⟨s,j⟩;obtain⟨D,m3,C,p3,B,c3,F,A,y,rfl,ho3⟩:=vo s;have Gm:=qI ho3;have H:=qI j;clear j ho3 s);exact⟨⟨_,_,_,_,_,_,_,_,_,rfl,Gm.o⟩,H.o⟩
    ·obtain⟨D,m3,C,p3,B,c3,F,A,y,d1,p⟩:=hd 1 Wr;have Gp:=qI (Rep.mono (T:=fun _=>True) p.rep (fun _ _ _=>trivial));clear p;go_wp2;exact⟨⟨_,_,_,_,_,_,_,_,_,rfl,Gp.o⟩,Wd⟩
    ·exact zi
    ·have d3:x 3=_:=hd 3 Wr;have y0:=f.cell (za (o:=0) Gq.o rfl) Wz;have y1:=f.cell (za (o:=1) Gq.o rfl) Wz;have y2:=f.cell (za (o:=2) Gq.o rfl) Wz;have y3:=f.cell (za (o:=3) Gq.o rfl) Wz;have y4:=f.cell (za (o:=4) Gq.o rfl) Wz;exact zi
    ·have d4:x 4=_:=hd 4 Wr;exact zi
    ·have d5:x 5=_:=hd 5 Wr;obtain⟨D,m3,C,p3,B,c3,F,A,y,d2,p⟩:=hd 2 Wr;have Gp:=qI p;clear p;go_wp2_with fail;have G:=(zb.refl [] w2).alloc (.cells #[.string Z8,.int .i64 D,.int .i64 m3,.string C,.slice p3 B c3,.slice F A y,.string zan,.int .i64 kd,.int .i64 N,.string st,.slice Q U O,.slice p2 P W] 41);exact⟨⟨w2.heap.size,[.int .i64 D,.int .i64 m3,.string C,.slice p3 B c3,.slice F A y],[.int .i64 kd,.int .i64 N,.string st,.slice Q U O,.slice p2 P W],rfl,yv w2 [.string Z8,.int .i64 D,.int .i64 m3,.string C,.slice p3 B c3,.slice F A y,.string zan,.int .i64 kd,.int .i64 N,.string st,.slice Q U O,.slice p2 P W] 6 2 _ _ rfl rfl Wo,Gp.o.k0 G,((Gx.o.k0 f).mono (fun _ _ _=>trivial)).k0 G⟩,G⟩
    ·obtain⟨g6,au,an,d6,ai,ak,ah⟩:=hd 6 Wr;have E:=ZG (n:=11) (S:=fun _=>True) (w:=w2) (m:=[(Z8,X1),(zan,v)]) (mcs:=[(Z8,au),(zan,an)]) (a:=some ⟨g6,0,none⟩) (c:=2) ai (zM.cons ⟨rfl,ak⟩ (zM.cons ⟨rfl,ah⟩ (zM.nil _))) (by rw [Gs.o];exact Jf.o);change Calls _ _ #[.slice (some ⟨g6,0,none⟩) 2 2] _ _ at E;rw [Gs.o] at E;clear ai ak ah;go_wp2_with (go_at_call 54;refine E.mono ?_;rintro e w5 ⟨s,j⟩;obtain⟨D,m3,C,p3,B,c3,F,A,y,rfl,ho3⟩:=vo s;have Gm:=qI ho3;have H:=qI j;clear j ho3 s);exact⟨⟨_,_,_,_,_,_,_,_,_,rfl,Gm.o⟩,H.o⟩
    ·obtain⟨D,m3,C,p3,B,c3,F,A,y,d7,p⟩:=hd 7 Wr;have E:=CE.o w2 _ _ (Gl.o.then f) p.rep;clear p;go_wp2_with (go_at_call 56;refine E.mono ?_;rintro e w5 ⟨⟨q,d,rfl,ag⟩,j⟩;have Je:=qI ag;have H:=qI j;clear j ag);exact⟨⟨_,_,rfl,Je.o⟩,H.o⟩
    ·obtain⟨q,d,d8,hb⟩:=hd 8 Wr;have HB:=qI hb;clear hb;go_wp2;exact⟨⟨_,_,rfl,HB.o⟩,Wd⟩
    ·obtain⟨q,d,d8,-⟩:=hd 8 Wr;exact zi
   ·intro x w7 f b7 hd J;obtain⟨q,d,d9,hb⟩:=hd 9 Wo;have ar:x 10=_:=hd 10 Wo;have HB:=qI hb;have Jd:=qI f;clear hd J f hb;change wpList _ _ _ [_,_] _ _;go_wp2;go_ret2;exact⟨⟨q,d,rfl,HB.o⟩,Ge.o.then (Gl.o.then Jd.o)⟩
theorem all_snoc (p:α→Bool)(l:List α)(k:Nat)(a:k<l.length):(l.take (k+1)).all p=((l.take k).all p&&p l[k]):=by
 rw [List.take_succ_eq_append_getElem a,List.all_append];simp
theorem all_false {p:α→Bool}{l:List α}{k:Nat}(a:k<l.length)(h:p l[k]=false):l.all p=false:=by
 rw [List.all_eq_false];exact⟨l[k],List.getElem_mem _,by simp [h]⟩
theorem ZB {n:Nat}{S:Nat→Prop}{w:World}{cs:List Value}{v:V n}{c:Nat}(h:Env n S w cs v a c l) : zJ w 9 #[.agg (YJ cs a l.length c).toArray] (.bool (yf n v l)):=by
 obtain⟨kd,nm,st,Q,W,Y,p2,P,U,rfl⟩:=h.rep.conv;obtain⟨B,z⟩:=XE (w.alloc (.cells #[.int .i64 kd,.int .i64 nm,.string st,.slice Q W Y,.slice p2 P U,.slice a l.length c] 28));have x:Hid (zb [] w B):=qI (kA1 z.o);have Ga:Hid (B.heap[w.heap.size]? = some (.cells #[.int .i64 kd,.int .i64 nm,.string st,.slice Q W Y,.slice p2 P U,.slice a l.length c] 28 (0,0))):=qI (by rw [z.o];exact ze rfl);have y:=qI (h.k0 x.o);have X:Hid (yL B 26 #[.agg #[.int .i64 kd,.int .i64 nm,.string st,.slice Q W Y,.slice p2 P U]] (.int .i64 (zY n v))):=qI (fun w2 d=>ZD (y.o.rep.k0 d) y.o.small y.o.deep);have CD:Hid (yL B 27 #[.agg #[.int .i64 kd,.int .i64 nm,.string st,.slice Q W Y,.slice p2 P U]] (.int .i64 (zH n v))):=qI (fun w2 d=>depth_any n v (y.o.rep.k0 d) y.o.small y.o.deep);have j:Hid (yf n v l=(decide (kd=6)&&(decide (zY n v=0)&&(decide (zH n v<12)&&(decide (l.length≤16)&&l.all xn))))):=qI (by unfold yf;rw [← y.o.rep.kindE]);have Gw:Hid (∀ i (hi:i<l.length),∃ g o,a=some ⟨g,o,none⟩∧B.cell? ⟨g,o+i*2,none⟩=some (.string l[i].id)∧B.cell? ⟨g,o+i*2+1,none⟩=some (.string l[i].sig)∧l[i].small):=qI (fun i hi=>by
  obtain⟨g,o,h1,-,-,h2⟩:=y.o.rows.cells Ws;exact⟨g,o,h1,h2 i hi 0 _ rfl,h2 i hi 1 _ rfl,h.texts _ (List.getElem_mem _)⟩)
 have ae:zH n v≤100:=Nat.le_trans (jb n v) h.deep;have ab:=h.few;clear h;generalize yf n v l=M at j ⊢;generalize zY n v=K at X j;generalize zH n v=D at CD j ae;obtain⟨m,Gt⟩:=XE l.length;rw [← Gt.o] at z Ga j ab;have ah:(D:Int)≤100:=Ws;have ag:(m:Int)≤1000000:=Ws;obtain⟨c0,c1,c2,c3,c4,c5⟩:=yS Ga.o;show Calls _ _ #[.agg #[.int .i64 kd,.int .i64 nm,.string st,.slice Q W Y,.slice p2 P U,.slice a l.length c]] _ _;rw [← Gt.o];by_cases h6:kd=6;rotate_left;·obtain⟨f1,f2⟩:=zR h6;rw [decide_eq_false h6] at j;clear h6;go_enter func9,ntmps9;go_upto_region 1 with fail;refine xg z.o ?_;go_wp2;go_ret;exact⟨by rw [j.o];rfl,x.o⟩
 rw [decide_eq_true h6] at j;subst h6;by_cases hc:K=0;rotate_left;·obtain⟨f1,f2⟩:=zR hc;rw [decide_eq_false hc] at j;clear hc;go_enter func9,ntmps9;go_upto_region 1 with fail;refine xg z.o ?_;go_wp2_with (go_at_call 26;refine (X.o _ Wd).mono ?_;rintro e w1 ⟨rfl,d⟩;have J:=d.cell c0 Wz;have H:=d.cell c1 Wz;have O:=d.cell c2 Wz;have G:=d.cell c3 Wz;have L:=d.cell c4 Wz;have u:=d.cell c5 Wz;have q:=qI d;clear d c0 c1 c2 c3 c4 c5);go_ret;exact⟨by rw [j.o];rfl,x.o.then q.o⟩
 rw [decide_eq_true hc] at j;subst hc;by_cases hd:D<12;rotate_left
 ·have R:(11:Int)<D:=by omega
  rw [decide_eq_false hd] at j;clear hd;go_enter func9,ntmps9;go_upto_region 1 with fail;refine xg z.o ?_;go_wp2_with first
   | (go_at_call 26;refine (X.o _ Wd).mono ?_;rintro e w1 ⟨rfl,d⟩;have J:=d.cell c0 Wz;have H:=d.cell c1 Wz;have O:=d.cell c2 Wz;have G:=d.cell c3 Wz;have L:=d.cell c4 Wz;have u:=d.cell c5 Wz;have q:=qI d;clear d c0 c1 c2 c3 c4 c5)
   | (go_at_call 27;refine (CD.o _ q.o).mono ?_;rintro e w2 ⟨rfl,d⟩;have z5:=d.cell u Wz;have Gb:=qI (q.o.then d);clear d J H O G L u)
  go_ret;exact⟨by rw [j.o];rfl,x.o.then Gb.o⟩
 have R:(D:Int)≤11:=Ws;rw [decide_eq_true hd] at j;clear hd;by_cases hm:m≤16;rotate_left
 ·have aa:(16:Int)<m:=by omega
  rw [decide_eq_false hm] at j;clear hm;go_enter func9,ntmps9;go_upto_region 1 with fail;refine xg z.o ?_;go_wp2_with first
   | (go_at_call 26;refine (X.o _ Wd).mono ?_;rintro e w1 ⟨rfl,d⟩;have J:=d.cell c0 Wz;have H:=d.cell c1 Wz;have O:=d.cell c2 Wz;have G:=d.cell c3 Wz;have L:=d.cell c4 Wz;have u:=d.cell c5 Wz;have q:=qI d;clear d c0 c1 c2 c3 c4 c5)
   | (go_at_call 27;refine (CD.o _ q.o).mono ?_;rintro e w2 ⟨rfl,d⟩;have z5:=d.cell u Wz;have Gb:=qI (q.o.then d);clear d J H O G L u)
  go_ret;exact⟨by rw [j.o];rfl,x.o.then Gb.o⟩
 ·have aa:(m:Int)≤16:=by omega
  rw [decide_eq_true hm] at j;have Jj:Hid (M=l.all xn):=qI (by rw [j.o];rfl);clear hm j;go_enter func9,ntmps9;go_upto_region 1 with fail;refine xg z.o ?_;have Je:=qI c5;go_wp2_with first
   | (go_at_call 26;refine (X.o _ Wd).mono ?_;rintro e w1 ⟨rfl,d⟩;have J:=d.cell c0 Wz;have H:=d.cell c1 Wz;have O:=d.cell c2 Wz;have G:=d.cell c3 Wz;have L:=d.cell c4 Wz;have u:=d.cell c5 Wz;have q:=qI d;clear d c0 c1 c2 c3 c4 c5)
   | (go_at_call 27;refine (CD.o _ q.o).mono ?_;rintro e w2 ⟨rfl,d⟩;have z5:=d.cell u Wz;have Gb:=qI (q.o.then d);clear d J H O G L u)
  go_loopw [3,4,5] (fun t3 _ _ wr=>∃ k:Nat,t3 = .int .i64 k∧k≤m∧Hid (zb [] B wr)∧Hid ((l.take k).all xn=true)) (fun t3 _ _ _=>m-(intOf t3).toNat);case atStart=>exact⟨0,rfl,XB,Gb,qI Wz⟩
  case round=>
   obtain⟨k,rfl,d,A,Jk⟩:=hrel;have I:=A.o.cell Je.o Wz;clear z5;rcases Nat.lt_or_ge k m with hlt | hge
   ·have r:k<l.length:=XC Gt.o;obtain⟨g,o,rfl,q0,q1,t⟩:=Gw.o k r;have e0:=A.o.cell q0 Wz;have F:=A.o.cell q1 Wz;clear q0 q1;have ai:(k:Int)<m:=Ws;have Gn:=qI hlt;have Gu:Hid (xn l[k]=false→M=false):=qI (fun h9=>by rw [Jj.o];exact all_false r h9);have Gr:Hid (xn l[k]=true→(l.take (k+1)).all xn=true):=qI (fun h9=>by rw [all_snoc _ _ _ r,Jk.o,h9];rfl);have s:Hid (xn l[k]=(b8 l[k].id&&((xo l[k].sig).isSome&&decide (l[k].sig.size≤1048576)))):=qI rfl;have N:Hid (∀ w2,Calls prog 28 #[.string l[k].sig] w2 fun e w'=>UnhexR w2 w' e (xo l[k].sig)∧zb [] w2 w'):=qI (fun w2=>Kd l[k].sig t.2 w2);have CI:Hid (∀ w2,Calls prog 29 #[.string l[k].id] w2 fun e w'=>e = .returned (.bool (b8 l[k].id))∧zb [] w2 w'):=qI (fun w2=>refId_any l[k].id t.1 w2);have C:=t.2;generalize xn l[k]=rb at Gu Gr s;generalize b8 l[k].id=ib at CI s;generalize l[k].id=s1 at e0 CI;generalize xo l[k].sig=us at N s;generalize l[k].sig=s2 at F N s C;clear d hlt r t;cases us with
    | none=>have HF:Hid (M=false):=qI (Gu.o (by rw [s.o];cases ib <;> rfl));go_wp2_with (go_at_call 28;refine (N.o _).mono ?_;rintro e w3 ⟨hu,f⟩;have hu:e = .returned (.tuple #[.slice none 0 0,.bool false]):=hu;subst hu;have E:=qI f;clear f);go_ret;exact⟨by rw [HF.o] <;> rfl,x.o.then (A.o.then E.o)⟩
    | some b=>
     by_cases hz:s2.size≤1048576;rotate_left
     ·have ad:(1048576:Int)<s2.size:=by omega
      have HF:Hid (M=false):=qI (Gu.o (by rw [s.o,decide_eq_false hz];cases ib <;> rfl));clear hz C;go_wp2_with (go_at_call 28;refine (N.o _).mono ?_;rintro e w3 ⟨⟨a3,Z,rfl,-,-⟩,f⟩;have F:=f.cell F Wz;have I:=f.cell I Wz;have E:=qI f;clear f);go_ret;exact⟨by rw [HF.o] <;> rfl,x.o.then (A.o.then E.o)⟩
     ·have ad:(s2.size:Int)≤1048576:=by omega
      rw [decide_eq_true hz] at s;clear hz C;cases ib with
      | false=>
       have HF:Hid (M=false):=qI (Gu.o (by rw [s.o];rfl));go_wp2_with first
        | (go_at_call 28;refine (N.o _).mono ?_;rintro e w3 ⟨⟨a3,Z,rfl,-,-⟩,f⟩;have e0:=f.cell e0 Wz;have F:=f.cell F Wz;have I:=f.cell I Wz;have E:=qI f;clear f)
        | (go_at_call 29;refine (CI.o _).mono ?_;rintro e w4 ⟨rfl,p⟩;have Gj:=qI (E.o.then p);clear p)
       go_ret;exact⟨by rw [HF.o] <;> rfl,x.o.then (A.o.then Gj.o)⟩
      | true=>
       have HT:Hid ((l.take (k+1)).all xn=true):=qI (Gr.o (by rw [s.o];rfl));go_wp2_with first
        | (go_at_call 28;refine (N.o _).mono ?_;rintro e w3 ⟨⟨a3,Z,rfl,-,-⟩,f⟩;have e0:=f.cell e0 Wz;have F:=f.cell F Wz;have I:=f.cell I Wz;have E:=qI f;clear f)
        | (go_at_call 29;refine (CI.o _).mono ?_;rintro e w4 ⟨rfl,p⟩;have Gj:=qI (E.o.then p);clear p)
       case roundEnd=>exact⟨⟨k+1,by go_num,Gn.o,qI (A.o.then Gj.o),HT⟩,by have:=Gn.o;simp [intOf];omega⟩
   ·obtain rfl:k=m:=by omega
    have HT:Hid (M=true):=qI (by have h1:=Jk.o;rw [List.take_of_length_le (XC Gt.o)] at h1;rw [Jj.o,h1]);have af:¬ ((k:Int)<k):=Ws;clear hge d;go_wp2;go_ret;exact⟨by rw [HT.o] <;> rfl,x.o.then A.o⟩
section
variable {n : Nat} {va vb : V n} {S T : Nat → Prop} {w : World} {ca cb : List Value}
theorem refSame_any (h:Rep n S w ca va)(X:Rep n T w cb vb)(P:zP n va)(x:zP n vb)(hn:n≤100) : zJ w 24 #[.agg ca.toArray,.agg cb.toArray] (.bool (Zc n va vb)):=by
 obtain⟨kd,nm,st,a,la,ea,b,lb,eb,rfl⟩:=h.conv;obtain⟨D,E,N,a',L,F,b',J,C,rfl⟩:=X.conv;obtain⟨p,U⟩:=XE ((w.alloc (.cells #[.int .i64 kd,.int .i64 nm,.string st,.slice a la ea,.slice b lb eb] 25)).alloc (.cells #[.int .i64 D,.int .i64 E,.string N,.slice a' L F,.slice b' J C] 25));have A:Hid (zb [] w p):=qI (kA2 U.o);have hA:yZ p w.heap.size kd nm st (.slice a la ea) (.slice b lb eb):=by rw [U.o];exact (xr _ _ _ _ _ _ _).k0 ((zb.refl [] _).alloc _)
 have hB:yZ p (w.heap.size+1) D E N (.slice a' L F) (.slice b' J C):=by rw [U.o];exact jq Wz _ _ _ _ _ _
 have CA:Hid (∀ q,zb [] p q→_):=qI (fun q (k:zb [] p q)=>ZD ((h.k0 A.o).k0 k) P hn);have CB:Hid (∀ q,zb [] p q→_):=qI (fun q (k:zb [] p q)=>ZD ((X.k0 A.o).k0 k) x hn);have SA:Hid (∀ q,zb [] p q→zo n va=true→_):=qI (fun q (k:zb [] p q) (hr:zo n va=true)=>Y4 n va ((h.k0 A.o).k0 k) P hr);have SB:Hid (∀ q,zb [] p q→zo n vb=true→_):=qI (fun q (k:zb [] p q) (hr:zo n vb=true)=>Y4 n vb ((X.k0 A.o).k0 k) x hr);have Jp:=qI (QP P);obtain⟨a0,a1,a2,a3,a4⟩:=hA;obtain⟨b0,b1,b2,b3,b4⟩:=hB;clear h X P x;go_enter func24,ntmps24;go_wp2_with fail;rw [← U.o];refine zt (n:=16) (fun w':World=>zb [] p w') 16 Wr Wr ?_;change zS _ _ _ _ _ _ _ _ _ p.drew;have d:(fun w':World=>zb [] p w') p.drew:=(zb.refl [] p).drew;revert d;generalize p.drew=W1;intro d;refine zF ?_;intro O R m W;have j:kI R:=by subst W;exact fun _ _ _ _ _ h=>h
 refine qT 0 ?_ m rfl rfl Wr j (fun w f=>?_) d ?_;rotate_left;·have s0:=f.cell a0 Wz;have s1:=f.cell a1 Wz;have s2:=f.cell a2 Wz;have Y:=f.cell a3 Wz;have Q:=f.cell a4 Wz;exact zg
 try simp only [XI]
 refine qO 1 m rfl Wr (fun K s=>?_);go_simp;refine Calls.mono (CA.o _ d) ?_;rintro e q ⟨rfl,G⟩;have l:(fun w':World=>zb [] p w') q:=d.then G;refine s _ _ (.inr l) ?_;clear s K;try simp only [XI]
 clear d G;by_cases t:zY n va=0;rotate_left
 ·have H:=qI (same_a (b:=vb) t);obtain⟨Z,f2⟩:=zR t;clear t;have d:=l;refine qT 2 ?_ m rfl rfl Wr j (fun w f=>?_) d ?_;rotate_left;·exact zg
  try simp only [XI]
  refine qT 3 ?_ m rfl rfl Wr j (fun w f=>?_) d ?_;rotate_left;·exact zg
  try simp only [XI]
  refine zV (i:=4) (v:=undef) m rfl rfl Wr Wr Wr Wr j (Or.inr ⟨Wr,rfl⟩) d ?_;try simp only [XI]
  refine zV (i:=5) (v:=undef) m rfl rfl Wr Wr Wr Wr j (Or.inr ⟨Wr,rfl⟩) d ?_;try simp only [XI]
  refine zV (i:=6) (v:=undef) m rfl rfl Wr Wr Wr Wr j (Or.inr ⟨Wr,rfl⟩) d ?_;try simp only [XI]
  refine qT 7 ?_ m rfl rfl Wr j (fun w f=>?_) d ?_;rotate_left;·exact zg
  try simp only [XI]
  refine qT 8 ?_ m rfl rfl Wr j (fun w f=>?_) d ?_;rotate_left;·exact zg
  try simp only [XI]
  refine zV (i:=9) (v:=undef) m rfl rfl Wr Wr Wr Wr j (Or.inr ⟨Wr,rfl⟩) d ?_;try simp only [XI]
  refine zV (i:=10) (v:=undef) m rfl rfl Wr Wr Wr Wr j (Or.inr ⟨Wr,rfl⟩) d ?_;try simp only [XI]
  refine zV (i:=11) (v:=undef) m rfl rfl Wr Wr Wr Wr j (Or.inr ⟨Wr,rfl⟩) d ?_;try simp only [XI]
  refine zV (i:=12) (v:=undef) m rfl rfl Wr Wr Wr Wr j (Or.inr ⟨Wr,rfl⟩) d ?_;try simp only [XI]
  refine zV (i:=13) (v:=undef) m rfl rfl Wr Wr Wr Wr j (Or.inr ⟨Wr,rfl⟩) d ?_;try simp only [XI]
  refine qT 14 ?_ m rfl rfl Wr j (fun w f=>?_) d ?_;rotate_left;·exact zg
  try simp only [XI]
  refine qT 15 ?_ m rfl rfl Wr j (fun w f=>?_) d ?_;rotate_left;·exact zg
  try simp only [XI]
  refine zz m Wr ?_ _;subst W;try clear j m O
  clear Z f2;go_wp2;go_ret;rw [H.o];exact⟨rfl,A.o.then l⟩
 have Jl:=qI t;rw [t];clear t;have d:=l;clear l;refine qT 2 ?_ m rfl rfl Wr j (fun w f=>?_) d ?_;rotate_left;·exact zg
 try simp only [XI]
 refine qT 3 ?_ m rfl rfl Wr j (fun w f=>?_) d ?_;rotate_left;·exact zg
 try simp only [XI]
 refine qT 4 ?_ m rfl rfl Wr j (fun w f=>?_) d ?_;rotate_left;·have s0:=f.cell b0 Wz;have s1:=f.cell b1 Wz;have s2:=f.cell b2 Wz;have Y:=f.cell b3 Wz;have Q:=f.cell b4 Wz;exact zg
 try simp only [XI]
 refine qO 5 m rfl Wr (fun K s=>?_);go_simp;refine Calls.mono (CB.o _ d) ?_;rintro e w2 ⟨rfl,I⟩;have l:(fun w':World=>zb [] p w') w2:=d.then I;refine s _ _ (.inr l) ?_;clear s K;try simp only [XI]
 clear d I;by_cases r:zY n vb=0;rotate_left
 ·have H:=qI (same_b (a:=va) r);obtain⟨Z,f2⟩:=zR r;clear r;have d:=l;refine qT 6 ?_ m rfl rfl Wr j (fun w f=>?_) d ?_;rotate_left;·exact zg
  try simp only [XI]
  refine qT 7 ?_ m rfl rfl Wr j (fun w f=>?_) d ?_;rotate_left;·exact zg
  try simp only [XI]
  refine qT 8 ?_ m rfl rfl Wr j (fun w f=>?_) d ?_;rotate_left;·exact zg
  try simp only [XI]
  refine zV (i:=9) (v:=undef) m rfl rfl Wr Wr Wr Wr j (Or.inr ⟨Wr,rfl⟩) d ?_;try simp only [XI]
  refine zV (i:=10) (v:=undef) m rfl rfl Wr Wr Wr Wr j (Or.inr ⟨Wr,rfl⟩) d ?_;try simp only [XI]
  refine zV (i:=11) (v:=undef) m rfl rfl Wr Wr Wr Wr j (Or.inr ⟨Wr,rfl⟩) d ?_;try simp only [XI]
  refine zV (i:=12) (v:=undef) m rfl rfl Wr Wr Wr Wr j (Or.inr ⟨Wr,rfl⟩) d ?_;try simp only [XI]
  refine zV (i:=13) (v:=undef) m rfl rfl Wr Wr Wr Wr j (Or.inr ⟨Wr,rfl⟩) d ?_;try simp only [XI]
  refine qT 14 ?_ m rfl rfl Wr j (fun w f=>?_) d ?_;rotate_left;·exact zg
  try simp only [XI]
  refine qT 15 ?_ m rfl rfl Wr j (fun w f=>?_) d ?_;rotate_left;·exact zg
  try simp only [XI]
  refine zz m Wr ?_ _;subst W;try clear j m O
  clear Z f2;go_wp2;go_ret;rw [H.o];exact⟨rfl,A.o.then l⟩
 have H:=qI (same_c Jl.o r);have Jq:=qI r;rw [r];clear r;have d:=l;clear l;refine qT 6 ?_ m rfl rfl Wr j (fun w f=>?_) d ?_;rotate_left;·exact zg
 try simp only [XI]
 refine qT 7 ?_ m rfl rfl Wr j (fun w f=>?_) d ?_;rotate_left;·exact zg
 try simp only [XI]
 refine qT 8 ?_ m rfl rfl Wr j (fun w f=>?_) d ?_;rotate_left;·exact zg
 try simp only [XI]
 refine qT 9 ?_ m rfl rfl Wr j (fun w f=>?_) d ?_;rotate_left;·have s0:=f.cell a0 Wz;have s1:=f.cell a1 Wz;have s2:=f.cell a2 Wz;have Y:=f.cell a3 Wz;have Q:=f.cell a4 Wz;exact zg
 try simp only [XI]
 refine qT 11 ?_ m rfl rfl Wr j (fun w f=>?_) d ?_;rotate_left;·have s0:=f.cell b0 Wz;have s1:=f.cell b1 Wz;have s2:=f.cell b2 Wz;have Y:=f.cell b3 Wz;have Q:=f.cell b4 Wz;exact zg
 try simp only [XI]
 refine qO 10 m rfl Wr (fun K s=>?_);go_simp;refine Calls.mono (SA.o _ d (jj Jl.o)) ?_;rintro e w3 ⟨⟨aa,rfl,u⟩,M⟩;obtain⟨k3,m3,Y,p3,i3,c3,q3,j3,d3,rfl⟩:=u.said;have Gm:=qI u;have l:(fun w':World=>zb [] p w') w3:=d.then M;refine s _ _ (.inr l) ?_;clear s K;try simp only [XI]
 clear d M u;have d:=l;clear l;refine qO 12 m rfl Wr (fun K s=>?_);go_simp;refine Calls.mono (SB.o _ d (jj Jq.o)) ?_;rintro e w4 ⟨⟨ab,rfl,z⟩,y⟩;obtain⟨k4,m4,Q,p4,i4,c4,q4,j4,d4,rfl⟩:=z.said;have CE:=qI (exact_any n (zI n va) (zI n vb) (Gm.o.rep.k0 y) z.rep Jp.o);have l:(fun w':World=>zb [] p w') w4:=d.then y;refine s _ _ (.inr l) ?_;clear s K;try simp only [XI]
 clear d y z;have d:=l;clear l;refine qO 13 m rfl Wr (fun K s=>?_);go_simp;refine Calls.mono CE.o ?_;rintro e w5 ⟨rfl,B⟩;have l:(fun w':World=>zb [] p w') w5:=d.then B;refine s _ _ (.inr l) ?_;clear s K;try simp only [XI]
 clear d B;have d:=l;refine qT 14 ?_ m rfl rfl Wr j (fun w f=>?_) d ?_;rotate_left;·exact zg
 try simp only [XI]
 refine qT 15 ?_ m rfl rfl Wr j (fun w f=>?_) d ?_;rotate_left;·exact zg
 try simp only [XI]
 refine zz m Wr ?_ _;subst W;try clear j m O
 go_wp2;go_ret;rw [H.o];exact⟨rfl,A.o.then l⟩
end
attribute [local go_sem] Oper.semAt_some
def zaB (n:Nat)(va vb:V n)(la lb:List yh):Bool:=yf n va la&&(yf n vb lb&&(eqL yc la lb&&Zc n va vb))
theorem zaN (n:Nat)(v:V n)(l:List yh):zaB n v v l l=yf n v l:=by
 unfold zaB;cases h:yf n v l with
 | false=>rfl
 | true=>
  have hc:zY n v=0:=by unfold yf at h;simp only [Bool.and_eq_true,decide_eq_true_eq] at h;exact h.2.1
  rw [eqR_self,same_c hc hc,(eqV_iff n _ _).2 rfl];rfl
theorem YP {n:Nat}{S T:Nat→Prop}{w:World}{ca cb:List Value}{va vb:V n}{c:Nat}(h:Env n S w ca va a c la)(h':Env n T w cb vb b d lb)(hn:n≤100)(ht:xH w) : zJ w 7 #[.agg (YJ ca a la.length c).toArray,.agg (YJ cb b lb.length d).toArray] (.bool (zaB n va vb la lb)):=by
 obtain⟨kd,nm,st,p1,i1,d1,p2,i2,d2,rfl⟩:=h.rep.conv;obtain⟨r,s,t,R,P,e1,q2,Y,U,rfl⟩:=h'.rep.conv;obtain⟨x,z⟩:=XE ((w.alloc (.cells #[.int .i64 kd,.int .i64 nm,.string st,.slice p1 i1 d1,.slice p2 i2 d2,.slice a la.length c] 28)).alloc (.cells #[.int .i64 r,.int .i64 s,.string t,.slice R P e1,.slice q2 Y U,.slice b lb.length d] 28));have Ge:Hid (zb [] w x):=qI (kA2 z.o);have Ga:Hid (jG x w.heap.size kd nm st (.slice p1 i1 d1) (.slice p2 i2 d2) (.slice a la.length c)):=qI (by rw [z.o];exact ((zb.refl [] _).alloc _).heap (ze rfl) Wz);have Gh:Hid (jG x (w.heap.size+1) r s t (.slice R P e1) (.slice q2 Y U) (.slice b lb.length d)):=qI (by rw [z.o];exact ze Wz);have HE:=qI (h.k0 Ge.o);have HF:=qI (h'.k0 Ge.o);have HT:=qI (ht.k0 Ge.o);have CA:Hid (zJ x 21 #[.agg #[.int .i64 kd,.int .i64 nm,.string st,.slice p1 i1 d1,.slice p2 i2 d2,.slice a la.length c]] (.bool (yf n va la))):=qI (by have h1:=qF HE.o HT.o;exact h1);have CB:Hid (yL x 21 #[.agg #[.int .i64 r,.int .i64 s,.string t,.slice R P e1,.slice q2 Y U,.slice b lb.length d]] (.bool (yf n vb lb))):=qI (fun w2 A=>by have h1:=qF (HF.o.k0 A) (HT.o.k0 A);exact h1);have CE:Hid (yL x 22 #[.slice a la.length c,.slice b lb.length d] (.bool (eqL yc la lb))):=qI (fun w2 A=>slcEqual_any (HE.o.rows.k0 A) (HF.o.rows.k0 A) HE.o.few HF.o.few);have CS:Hid (yL x 23 #[.agg #[.int .i64 kd,.int .i64 nm,.string st,.slice p1 i1 d1,.slice p2 i2 d2],.agg #[.int .i64 r,.int .i64 s,.string t,.slice R P e1,.slice q2 Y U]] (.bool (Zc n va vb))):=qI (fun w2 A=>by have h1:=valSame_any (HE.o.rep.k0 A) (HF.o.rep.k0 A) HE.o.small HF.o.small hn (HT.o.k0 A);exact h1);clear h h' ht;obtain⟨q,hq⟩:=XF (zaB n va vb la lb);rw [← hq];obtain⟨ba,W⟩:=XF (yf n va la);obtain⟨bb,X⟩:=XF (yf n vb lb);obtain⟨be,Z⟩:=XF (eqL yc la lb);obtain⟨bs,Q⟩:=XF (Zc n va vb);have HQ:Hid (q=(ba&&(bb&&(be&&bs)))):=qI (by rw [hq,W,X,Z,Q];rfl);clear hq;rw [← W] at CA;have CB:Hid (yL x 21 #[.agg #[.int .i64 r,.int .i64 s,.string t,.slice R P e1,.slice q2 Y U,.slice b lb.length d]] (.bool bb)):=qI (by rw [X];exact CB.o);have CE:Hid (yL x 22 #[.slice a la.length c,.slice b lb.length d] (.bool be)):=qI (by rw [Z];exact CE.o);have CS:Hid (yL x 23 #[.agg #[.int .i64 kd,.int .i64 nm,.string st,.slice p1 i1 d1,.slice p2 i2 d2],.agg #[.int .i64 r,.int .i64 s,.string t,.slice R P e1,.slice q2 Y U]] (.bool bs)):=qI (by rw [Q];exact CS.o);clear W X Z Q;generalize la.length=ma at z Ga CA CE ⊢;generalize lb.length=mb at z Gh CB CE ⊢;show Calls _ _ #[.agg #[.int .i64 kd,.int .i64 nm,.string st,.slice p1 i1 d1,.slice p2 i2 d2,.slice a ma c],.agg #[.int .i64 r,.int .i64 s,.string t,.slice R P e1,.slice q2 Y U,.slice b mb d]] _ _;obtain⟨c0,c1,c2,c3,c4,c5⟩:=yS Ga.o;obtain⟨M,L,O,N,p,m⟩:=yS Gh.o;cases ba with
 | false=>
  go_enter func7,ntmps7;go_upto_region 1 with fail;rw [← z.o];go_wp2_with first | (go_at_call 21;refine CA.o.mono ?_;rintro e w2 ⟨rfl,f⟩;have y:=qI f;have G:=f.cell c0 Wz;have F:=f.cell c1 Wz;have J:=f.cell c2 Wz;have B:=f.cell c3 Wz;have H:=f.cell c4 Wz;have I:=f.cell c5 Wz;have C:=f.cell M Wz;have E:=f.cell L Wz;have D:=f.cell O Wz;have K:=f.cell N Wz;have l:=f.cell p Wz;have k:=f.cell m Wz;clear f c0 c1 c2 c3 c4 c5 M L O N p m)
  go_ret;exact⟨by rw [HQ.o];simp,Ge.o.then y.o⟩
 | true=>
  cases bb with
  | false=>
   go_enter func7,ntmps7;go_upto_region 1 with fail;rw [← z.o];go_wp2_with first | (go_at_call 21;refine (CB.o _ y.o).mono ?_;rintro e w3 ⟨rfl,i⟩;have Gd:=qI (y.o.then i);have z0:=i.cell G Wz;have z1:=i.cell F Wz;have z2:=i.cell J Wz;have z3:=i.cell B Wz;have z4:=i.cell H Wz;have z5:=i.cell I Wz;have z6:=i.cell C Wz;have z7:=i.cell E Wz;have z8:=i.cell D Wz;have z9:=i.cell K Wz;have u:=i.cell l Wz;have v:=i.cell k Wz;clear i G F J B H I C E D K l k) | (go_at_call 21;refine CA.o.mono ?_;rintro e w2 ⟨rfl,f⟩;have y:=qI f;have G:=f.cell c0 Wz;have F:=f.cell c1 Wz;have J:=f.cell c2 Wz;have B:=f.cell c3 Wz;have H:=f.cell c4 Wz;have I:=f.cell c5 Wz;have C:=f.cell M Wz;have E:=f.cell L Wz;have D:=f.cell O Wz;have K:=f.cell N Wz;have l:=f.cell p Wz;have k:=f.cell m Wz;clear f c0 c1 c2 c3 c4 c5 M L O N p m)
   go_ret;exact⟨by rw [HQ.o];simp,Ge.o.then Gd.o⟩
  | true=>
   cases be with
   | false=>
    go_enter func7,ntmps7;go_upto_region 1 with fail;rw [← z.o];go_wp2_with first | (go_at_call 22;refine (CE.o _ Gd.o).mono ?_;rintro e w4 ⟨rfl,j⟩;have Gj:=qI (Gd.o.then j);have u0:=j.cell z0 Wz;have u1:=j.cell z1 Wz;have u2:=j.cell z2 Wz;have u3:=j.cell z3 Wz;have u4:=j.cell z4 Wz;have u5:=j.cell z5 Wz;have u6:=j.cell z6 Wz;have u7:=j.cell z7 Wz;have u8:=j.cell z8 Wz;have u9:=j.cell z9 Wz;have ab:=j.cell u Wz;have ad:=j.cell v Wz;clear j z0 z1 z2 z3 z4 z5 z6 z7 z8 z9 u v) | (go_at_call 21;refine (CB.o _ y.o).mono ?_;rintro e w3 ⟨rfl,i⟩;have Gd:=qI (y.o.then i);have z0:=i.cell G Wz;have z1:=i.cell F Wz;have z2:=i.cell J Wz;have z3:=i.cell B Wz;have z4:=i.cell H Wz;have z5:=i.cell I Wz;have z6:=i.cell C Wz;have z7:=i.cell E Wz;have z8:=i.cell D Wz;have z9:=i.cell K Wz;have u:=i.cell l Wz;have v:=i.cell k Wz;clear i G F J B H I C E D K l k) | (go_at_call 21;refine CA.o.mono ?_;rintro e w2 ⟨rfl,f⟩;have y:=qI f;have G:=f.cell c0 Wz;have F:=f.cell c1 Wz;have J:=f.cell c2 Wz;have B:=f.cell c3 Wz;have H:=f.cell c4 Wz;have I:=f.cell c5 Wz;have C:=f.cell M Wz;have E:=f.cell L Wz;have D:=f.cell O Wz;have K:=f.cell N Wz;have l:=f.cell p Wz;have k:=f.cell m Wz;clear f c0 c1 c2 c3 c4 c5 M L O N p m)
    go_ret;exact⟨by rw [HQ.o];simp,Ge.o.then Gj.o⟩
   | true=>
    go_enter func7,ntmps7;go_upto_region 1 with fail;rw [← z.o];go_wp2_with first | (go_at_call 23;refine (CS.o _ Gj.o).mono ?_;rintro e w5 ⟨rfl,aa⟩;have Gf:=qI (Gj.o.then aa);clear aa u0 u1 u2 u3 u4 u5 u6 u7 u8 u9 ab ad) | (go_at_call 22;refine (CE.o _ Gd.o).mono ?_;rintro e w4 ⟨rfl,j⟩;have Gj:=qI (Gd.o.then j);have u0:=j.cell z0 Wz;have u1:=j.cell z1 Wz;have u2:=j.cell z2 Wz;have u3:=j.cell z3 Wz;have u4:=j.cell z4 Wz;have u5:=j.cell z5 Wz;have u6:=j.cell z6 Wz;have u7:=j.cell z7 Wz;have u8:=j.cell z8 Wz;have u9:=j.cell z9 Wz;have ab:=j.cell u Wz;have ad:=j.cell v Wz;clear j z0 z1 z2 z3 z4 z5 z6 z7 z8 z9 u v) | (go_at_call 21;refine (CB.o _ y.o).mono ?_;rintro e w3 ⟨rfl,i⟩;have Gd:=qI (y.o.then i);have z0:=i.cell G Wz;have z1:=i.cell F Wz;have z2:=i.cell J Wz;have z3:=i.cell B Wz;have z4:=i.cell H Wz;have z5:=i.cell I Wz;have z6:=i.cell C Wz;have z7:=i.cell E Wz;have z8:=i.cell D Wz;have z9:=i.cell K Wz;have u:=i.cell l Wz;have v:=i.cell k Wz;clear i G F J B H I C E D K l k) | (go_at_call 21;refine CA.o.mono ?_;rintro e w2 ⟨rfl,f⟩;have y:=qI f;have G:=f.cell c0 Wz;have F:=f.cell c1 Wz;have J:=f.cell c2 Wz;have B:=f.cell c3 Wz;have H:=f.cell c4 Wz;have I:=f.cell c5 Wz;have C:=f.cell M Wz;have E:=f.cell L Wz;have D:=f.cell O Wz;have K:=f.cell N Wz;have l:=f.cell p Wz;have k:=f.cell m Wz;clear f c0 c1 c2 c3 c4 c5 M L O N p m)
    go_ret;exact⟨by rw [HQ.o];simp,Ge.o.then Gf.o⟩
theorem refSame17_any {n:Nat}{S T:Nat→Prop}{w:World}{ca cb:List Value}{va vb:V n}{c:Nat}(h:Env n S w ca va a c la)(h':Env n T w cb vb b d lb)(hn:n≤100)(ht:xH w) : zJ w 8 #[.agg (YJ ca a la.length c).toArray,.agg (YJ cb b lb.length d).toArray] (.bool (zaB n va vb la lb)):=by
 obtain⟨kd,nm,st,p1,i1,d1,p2,i2,d2,rfl⟩:=h.rep.conv;obtain⟨r,s,t,Q,O,e1,q2,Y,U,rfl⟩:=h'.rep.conv;obtain⟨x,z⟩:=XE ((w.alloc (.cells #[.int .i64 kd,.int .i64 nm,.string st,.slice p1 i1 d1,.slice p2 i2 d2,.slice a la.length c] 28)).alloc (.cells #[.int .i64 r,.int .i64 s,.string t,.slice Q O e1,.slice q2 Y U,.slice b lb.length d] 28));have Ge:Hid (zb [] w x):=qI (kA2 z.o);have Ga:Hid (jG x w.heap.size kd nm st (.slice p1 i1 d1) (.slice p2 i2 d2) (.slice a la.length c)):=qI (by rw [z.o];exact ((zb.refl [] _).alloc _).heap (ze rfl) Wz);have Gh:Hid (jG x (w.heap.size+1) r s t (.slice Q O e1) (.slice q2 Y U) (.slice b lb.length d)):=qI (by rw [z.o];exact ze Wz);have HE:=qI (h.k0 Ge.o);have HF:=qI (h'.k0 Ge.o);have HT:=qI (ht.k0 Ge.o);have CA:Hid (zJ x 9 #[.agg #[.int .i64 kd,.int .i64 nm,.string st,.slice p1 i1 d1,.slice p2 i2 d2,.slice a la.length c]] (.bool (yf n va la))):=qI (by have h1:=ZB HE.o;exact h1);have CB:Hid (yL x 9 #[.agg #[.int .i64 r,.int .i64 s,.string t,.slice Q O e1,.slice q2 Y U,.slice b lb.length d]] (.bool (yf n vb lb))):=qI (fun w2 R=>by have h1:=ZB (HF.o.k0 R);exact h1);have CE:Hid (yL x 25 #[.slice a la.length c,.slice b lb.length d] (.bool (eqL yc la lb))):=qI (fun w2 R=>sameRows_any (HE.o.rows.k0 R) (HF.o.rows.k0 R) HE.o.few HF.o.few);have CS:Hid (yL x 24 #[.agg #[.int .i64 kd,.int .i64 nm,.string st,.slice p1 i1 d1,.slice p2 i2 d2],.agg #[.int .i64 r,.int .i64 s,.string t,.slice Q O e1,.slice q2 Y U]] (.bool (Zc n va vb))):=qI (fun w2 R=>by have h1:=refSame_any (HE.o.rep.k0 R) (HF.o.rep.k0 R) HE.o.small HF.o.small hn;exact h1);clear h h' ht;obtain⟨q,hq⟩:=XF (zaB n va vb la lb);rw [← hq];obtain⟨ba,W⟩:=XF (yf n va la);obtain⟨bb,X⟩:=XF (yf n vb lb);obtain⟨be,Z⟩:=XF (eqL yc la lb);obtain⟨bs,P⟩:=XF (Zc n va vb);have HQ:Hid (q=(ba&&(bb&&(be&&bs)))):=qI (by rw [hq,W,X,Z,P];rfl);clear hq;rw [← W] at CA;have CB:Hid (yL x 9 #[.agg #[.int .i64 r,.int .i64 s,.string t,.slice Q O e1,.slice q2 Y U,.slice b lb.length d]] (.bool bb)):=qI (by rw [X];exact CB.o);have CE:Hid (yL x 25 #[.slice a la.length c,.slice b lb.length d] (.bool be)):=qI (by rw [Z];exact CE.o);have CS:Hid (yL x 24 #[.agg #[.int .i64 kd,.int .i64 nm,.string st,.slice p1 i1 d1,.slice p2 i2 d2],.agg #[.int .i64 r,.int .i64 s,.string t,.slice Q O e1,.slice q2 Y U]] (.bool bs)):=qI (by rw [P];exact CS.o);clear W X Z P;generalize la.length=ma at z Ga CA CE ⊢;generalize lb.length=mb at z Gh CB CE ⊢;show Calls _ _ #[.agg #[.int .i64 kd,.int .i64 nm,.string st,.slice p1 i1 d1,.slice p2 i2 d2,.slice a ma c],.agg #[.int .i64 r,.int .i64 s,.string t,.slice Q O e1,.slice q2 Y U,.slice b mb d]] _ _;obtain⟨c0,c1,c2,c3,c4,c5⟩:=yS Ga.o;obtain⟨L,K,N,M,p,m⟩:=yS Gh.o;cases ba with
 | false=>
  go_enter func8,ntmps8;go_upto_region 1 with fail;rw [← z.o];go_wp2_with first | (go_at_call 9;refine CA.o.mono ?_;rintro e w2 ⟨rfl,f⟩;have y:=qI f;have F:=f.cell c0 Wz;have E:=f.cell c1 Wz;have I:=f.cell c2 Wz;have A:=f.cell c3 Wz;have G:=f.cell c4 Wz;have H:=f.cell c5 Wz;have B:=f.cell L Wz;have D:=f.cell K Wz;have C:=f.cell N Wz;have J:=f.cell M Wz;have l:=f.cell p Wz;have k:=f.cell m Wz;clear f c0 c1 c2 c3 c4 c5 L K N M p m)
  go_ret;exact⟨by rw [HQ.o];simp,Ge.o.then y.o⟩
 | true=>
  cases bb with
  | false=>
   go_enter func8,ntmps8;go_upto_region 1 with fail;rw [← z.o];go_wp2_with first | (go_at_call 9;refine (CB.o _ y.o).mono ?_;rintro e w3 ⟨rfl,i⟩;have Gd:=qI (y.o.then i);have z0:=i.cell F Wz;have z1:=i.cell E Wz;have z2:=i.cell I Wz;have z3:=i.cell A Wz;have z4:=i.cell G Wz;have z5:=i.cell H Wz;have z6:=i.cell B Wz;have z7:=i.cell D Wz;have z8:=i.cell C Wz;have z9:=i.cell J Wz;have u:=i.cell l Wz;have v:=i.cell k Wz;clear i F E I A G H B D C J l k) | (go_at_call 9;refine CA.o.mono ?_;rintro e w2 ⟨rfl,f⟩;have y:=qI f;have F:=f.cell c0 Wz;have E:=f.cell c1 Wz;have I:=f.cell c2 Wz;have A:=f.cell c3 Wz;have G:=f.cell c4 Wz;have H:=f.cell c5 Wz;have B:=f.cell L Wz;have D:=f.cell K Wz;have C:=f.cell N Wz;have J:=f.cell M Wz;have l:=f.cell p Wz;have k:=f.cell m Wz;clear f c0 c1 c2 c3 c4 c5 L K N M p m)
   go_ret;exact⟨by rw [HQ.o];simp,Ge.o.then Gd.o⟩
  | true=>
   cases bs with
   | false=>
    go_enter func8,ntmps8;go_upto_region 1 with fail;rw [← z.o];go_wp2_with first | (go_at_call 24;refine (CS.o _ Gd.o).mono ?_;rintro e w4 ⟨rfl,j⟩;have Gj:=qI (Gd.o.then j);have u0:=j.cell z0 Wz;have u1:=j.cell z1 Wz;have u2:=j.cell z2 Wz;have u3:=j.cell z3 Wz;have u4:=j.cell z4 Wz;have u5:=j.cell z5 Wz;have u6:=j.cell z6 Wz;have u7:=j.cell z7 Wz;have u8:=j.cell z8 Wz;have u9:=j.cell z9 Wz;have ab:=j.cell u Wz;have ad:=j.cell v Wz;clear j z0 z1 z2 z3 z4 z5 z6 z7 z8 z9 u v) | (go_at_call 9;refine (CB.o _ y.o).mono ?_;rintro e w3 ⟨rfl,i⟩;have Gd:=qI (y.o.then i);have z0:=i.cell F Wz;have z1:=i.cell E Wz;have z2:=i.cell I Wz;have z3:=i.cell A Wz;have z4:=i.cell G Wz;have z5:=i.cell H Wz;have z6:=i.cell B Wz;have z7:=i.cell D Wz;have z8:=i.cell C Wz;have z9:=i.cell J Wz;have u:=i.cell l Wz;have v:=i.cell k Wz;clear i F E I A G H B D C J l k) | (go_at_call 9;refine CA.o.mono ?_;rintro e w2 ⟨rfl,f⟩;have y:=qI f;have F:=f.cell c0 Wz;have E:=f.cell c1 Wz;have I:=f.cell c2 Wz;have A:=f.cell c3 Wz;have G:=f.cell c4 Wz;have H:=f.cell c5 Wz;have B:=f.cell L Wz;have D:=f.cell K Wz;have C:=f.cell N Wz;have J:=f.cell M Wz;have l:=f.cell p Wz;have k:=f.cell m Wz;clear f c0 c1 c2 c3 c4 c5 L K N M p m)
    go_ret;exact⟨by rw [HQ.o];simp,Ge.o.then Gj.o⟩
   | true=>
    go_enter func8,ntmps8;go_upto_region 1 with fail;rw [← z.o];go_wp2_with first | (go_at_call 25;refine (CE.o _ Gj.o).mono ?_;rintro e w5 ⟨rfl,aa⟩;have Gf:=qI (Gj.o.then aa);clear aa u0 u1 u2 u3 u4 u5 u6 u7 u8 u9 ab ad) | (go_at_call 24;refine (CS.o _ Gd.o).mono ?_;rintro e w4 ⟨rfl,j⟩;have Gj:=qI (Gd.o.then j);have u0:=j.cell z0 Wz;have u1:=j.cell z1 Wz;have u2:=j.cell z2 Wz;have u3:=j.cell z3 Wz;have u4:=j.cell z4 Wz;have u5:=j.cell z5 Wz;have u6:=j.cell z6 Wz;have u7:=j.cell z7 Wz;have u8:=j.cell z8 Wz;have u9:=j.cell z9 Wz;have ab:=j.cell u Wz;have ad:=j.cell v Wz;clear j z0 z1 z2 z3 z4 z5 z6 z7 z8 z9 u v) | (go_at_call 9;refine (CB.o _ y.o).mono ?_;rintro e w3 ⟨rfl,i⟩;have Gd:=qI (y.o.then i);have z0:=i.cell F Wz;have z1:=i.cell E Wz;have z2:=i.cell I Wz;have z3:=i.cell A Wz;have z4:=i.cell G Wz;have z5:=i.cell H Wz;have z6:=i.cell B Wz;have z7:=i.cell D Wz;have z8:=i.cell C Wz;have z9:=i.cell J Wz;have u:=i.cell l Wz;have v:=i.cell k Wz;clear i F E I A G H B D C J l k) | (go_at_call 9;refine CA.o.mono ?_;rintro e w2 ⟨rfl,f⟩;have y:=qI f;have F:=f.cell c0 Wz;have E:=f.cell c1 Wz;have I:=f.cell c2 Wz;have A:=f.cell c3 Wz;have G:=f.cell c4 Wz;have H:=f.cell c5 Wz;have B:=f.cell L Wz;have D:=f.cell K Wz;have C:=f.cell N Wz;have J:=f.cell M Wz;have l:=f.cell p Wz;have k:=f.cell m Wz;clear f c0 c1 c2 c3 c4 c5 L K N M p m)
    go_ret;exact⟨by rw [HQ.o];simp,Ge.o.then Gf.o⟩
end Go.Proofs.YtjccecajigmfkaaGreatDoor

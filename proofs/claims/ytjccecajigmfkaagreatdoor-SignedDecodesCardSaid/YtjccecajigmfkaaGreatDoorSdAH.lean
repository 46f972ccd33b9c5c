/- Parts of one proof, merged: XHI XEH XHK. -/
import Derived.Test.YtjccecajigmfkaaGreatDoorSdAG
set_option linter.all false
set_option maxHeartbeats 12800000
set_option maxRecDepth 100000
namespace Go.Proofs.YtjccecajigmfkaaGreatDoor
open Go.Proofs.Tryz
open Go.RowKit
attribute [local go_sem] Oper.semAt_some
variable {S:Nat→Prop}{a:Option Addr}{l:List yg}{n:Nat}{w:World}{α:Type}
def val1Fact (n:Nat)(v:V n):jd (zb []):=⟨fun u _ w=>∃ g k m s p i c q j d,u = .slice (some ⟨g,0,none⟩) 1 1∧Slc w 5 (.slice (some ⟨g,0,none⟩) 1 1) 1 [.int .i64 k,.int .i64 m,.string s,.slice p i c,.slice q j d]∧Rep n (fun _=>True) w [.int .i64 k,.int .i64 m,.string s,.slice p i c,.slice q j d] v,
 fun _ _ _ _ ⟨g,k,m,s,p,i,c,q,j,d,h1,h2,h3⟩ kk=>⟨g,k,m,s,p,i,c,q,j,d,h1,h2.k0 kk,h3.k0 kk⟩⟩
def pair2Fact (n:Nat)(k1:ByteArray)(v1:V n)(k2:ByteArray)(v2:V n):jd (zb []):=⟨fun u _ w=>∃ g c1 c2,u = .slice (some ⟨g,0,none⟩) 2 2∧Slc w 6 (.slice (some ⟨g,0,none⟩) 2 2) 2 (yM [(k1,c1),(k2,c2)])∧Rep n (fun _=>True) w c1 v1∧Rep n (fun _=>True) w c2 v2,
 fun _ _ _ _ ⟨g,c1,c2,h1,h2,h3,h4⟩ kk=>⟨g,c1,c2,h1,h2.k0 kk,h3.k0 kk,h4.k0 kk⟩⟩
def encFact (t:List UInt8)(z:Int):jd (zb []):=⟨fun u _ w=>∃ q d,u = .tuple #[.slice q t.length d,.int .i64 z]∧zm w (.slice q t.length d) t,fun _ _ _ _ ⟨q,d,h1,h2⟩ k=>⟨q,d,h1,h2.k0 k⟩⟩
theorem Kd {cs:List Value}{v:V 11}{c:Nat}(h:Env 11 S w cs v a c l)(hm:yd 11 v l=true)(hl:l.length≤1)(U:zP 12 (qg v l))(ht:xS w) : Calls prog 16 #[.agg (zaQ cs a l.length c).toArray] w fun e w'=>(∃ q d,e = .returned (.tuple #[.slice q (xV 12 (qg v l)).1.length d,.int .i64 (xV 12 (qg v l)).2])∧zm w' (.slice q (xV 12 (qg v l)).1.length d) (xV 12 (qg v l)).1)∧zb [] w w':=by
 obtain⟨kd,P,st,R,Q,O,p2,N,W,rfl⟩:=h.rep.conv;obtain⟨W1,Ge⟩:=XE (w.alloc (.cells #[.int .i64 kd,.int .i64 P,.string st,.slice R Q O,.slice p2 N W,.slice a l.length c] 28));have Gf:Hid (zb [] w W1):=qI (kA1 Ge.o);have Ga:Hid (kO W1 w.heap.size kd P st (.slice R Q O) (.slice p2 N W) (.slice a l.length c)):=qI (by rw [Ge.o];exact zd rfl);have HE:=qI (h.k0 Gf.o);have HT:=qI (ht.k0 Gf.o);have CM:Hid (zG W1 21 #[.agg #[.int .i64 kd,.int .i64 P,.string st,.slice R Q O,.slice p2 N W,.slice a l.length c]] (.bool true)):=qI (by have h1:=qZ HE.o HT.o;rw [hm] at h1;exact h1);have Jf:Hid (zP 12 (qg v l)):=qI U;have CE:Hid (∀ w2 ab (S:Nat→Prop),zb [] W1 w2→Rep 12 S w2 ab (qg v l)→Calls prog 56 #[.agg ab.toArray] w2 fun e w'=>(∃ q d,e = .returned (.tuple #[.slice q (xV 12 (qg v l)).1.length d,.int .i64 (xV 12 (qg v l)).2])∧zm w' (.slice q (xV 12 (qg v l)).1.length d) (xV 12 (qg v l)).1)∧zb [] w2 w'):=qI (fun w2 ab S M hr=>Z0 hr U Wo (HT.o.k0 M));have Jg:Hid (zP 11 (jL (l.map jT):VS (V 10))):=qI (zP.kid (v:=(qg v l:VS (V 11))) U (by exact Xp));have Gv:Hid (∀ r,r∈l→zP 10 (jT r)):=qI (fun r hr=>zP.kid (v:=(jL (l.map jT):VS (V 10))) Jg.o (by simp only [jL,VS.kids,X3,Xn];exact List.mem_map_of_mem hr));have Gs:Hid ((vD [(bN,(jL (l.map jT):VS (V 10))),(JL,v)]:VS (V 11))=qg v l):=qI rfl;have av:=fun r=>show (vD [(QW,(kB r.id:VS (V 8))),(Q5,(kB r.sig:VS (V 8)))]:VS (V 9))=jT r from rfl
 have Gw:Hid (∀ r l',l=r::l'→∃ g o,a=some ⟨g,o,none⟩∧∀ w2,zb [] W1 w2→w2.cell? ⟨g,o,none⟩=some (.string r.id)∧w2.cell? ⟨g,o+1,none⟩=some (.string r.sig)):=qI (fun r l' e=>by
  subst e;obtain⟨g,o,h1,-,-,h2⟩:=HE.o.rows.cells Wz;exact⟨g,o,h1,fun w2 M=>⟨M.cell (by have:=h2 0 Wz 0 _ rfl;simpa using this) Wz,M.cell (by have:=h2 0 Wz 1 _ rfl;simpa using this) Wz⟩⟩)
 have Gx:=qI (HE.o.rep);have an:(l.length:Int)≤1:=Ws;have Jh:=qI hl;clear h hm U ht hl;obtain⟨X1,Ji⟩:∃ X1:V 11,Hid (X1=(jL (l.map jT):VS (V 10))):=⟨_,qI rfl⟩;rw [← Ji.o] at Gs;generalize qg v l=X at CE Jf Gs ⊢;generalize xV 12 X=tz at CE ⊢;obtain⟨t,z⟩:=tz;simp only at CE ⊢;generalize ah:l.length=m at Ge Ga CM an Jh ⊢;have HM:=qI ah;clear ah;show Calls _ _ #[.agg #[.int .i64 kd,.int .i64 P,.string st,.slice R Q O,.slice p2 N W,.slice a m c]] _ _;obtain⟨c0,c1,c2,c3,c4,c5⟩:=yz Ga.o;go_enter func16,ntmps16;go_upto_region 1 with fail;rw [← Ge.o];go_upto_region 4 with (go_at_call 21;refine CM.o.mono ?_;rintro e w2 ⟨rfl,ad⟩;have Gb:=qI ad;have z5:=ad.cell c5 Wz;clear ad c0 c1 c2 c3 c4 c5);go_wp2_with fail;clear z5;go_loopw [4,6,13] (fun q _ i wr=>∃ (k:Nat) (a':Option Addr) (c':Nat) (lcs:List (List Value)),i = .int .i64 k∧k≤m∧q = .slice a' k c'∧(k=0→a'=none∧c'=0)∧Slc wr 5 (.slice a' k c') k lcs.flatten∧zL (Rep 10 (fun _=>True) wr) lcs ((l.take k).map jT)∧zb [] W1 wr) (fun _ _ i _=>m-(intOf i).toNat);case atStart=>exact⟨0,none,0,[],rfl,XB,rfl,fun _=>⟨rfl,rfl⟩,xt _ _,zL.nil _,Gb.o⟩
 case round=>
  obtain⟨k,a',c',lcs,rfl,M,rfl,hz,Y,Z,aj⟩:=hrel;have Gy:=qI Y;have Gz:=qI Z;have Gk:=qI aj;clear Y Z aj;by_cases aa:k<m
  ·obtain rfl:k=0:=XC Jh.o;obtain⟨rfl,rfl⟩:=hz rfl;clear hz M;have aw:(0:Int)<m:=Ws;obtain⟨r,l',rfl⟩:∃ r l',l=r::l':=List.exists_cons_of_length_pos (by rw [HM.o];exact aa);obtain⟨g,o,rfl,L⟩:=Gw.o r l' rfl;obtain⟨q0,q1⟩:=L wr Gk.o;have Gv:=qI (Gv.o r Wz);clear L;have Gm:=qI aa;clear aa;go_upto_region 7 with fail;obtain⟨W5,Ja⟩:=XE (wr.alloc (.cells #[.string r.id,.string r.sig] 38));have H:Hid (zb [] W1 W5):=qI (by rw [Ja.o];exact Gk.o.alloc _);have H2:Hid (W5.heap[wr.heap.size]? = some (.cells #[.string r.id,.string r.sig] 38 (0,0))):=qI (by rw [Ja.o];exact zd rfl);refine yZ Ja.o ?_;generalize wr.heap.size=rb at H2 ⊢
   refine Kf (n:=42) 12 [fI (.slice none 0 0),
    fI (.pointer (some ⟨rb,0,none⟩)),
    fI (.string r.id),
    fI (.agg #[.int .i64 4,.int .i64 0,.string r.id,.slice none 0 0,.slice none 0 0]),
    fI (.agg #[.string QW,.int .i64 4,.int .i64 0,.string r.id,.slice none 0 0,.slice none 0 0]),
    fI (.pointer (some ⟨rb,1,none⟩)),
    fI (.string r.sig),
    fI (.agg #[.int .i64 4,.int .i64 0,.string r.sig,.slice none 0 0,.slice none 0 0]),
    fI (.agg #[.string Q5,.int .i64 4,.int .i64 0,.string r.sig,.slice none 0 0,.slice none 0 0]),
    je [.string QW,.int .i64 4,.int .i64 0,.string r.id,.slice none 0 0,.slice none 0 0,.string Q5,.int .i64 4,.int .i64 0,.string r.sig,.slice none 0 0,.slice none 0 0] 2 6,
    KZ 10 (jT r),
    val1Fact 10 (jT r)] Wr rfl Wr (fun x=>qB) (fun x hx=>by rw [show x 13 = .slice none 0 0 from hx 13 Wo Wo]) ?_ ?_
   ·refine⟨?_,?_,?_,?_,?_,?_,?_,?_,?_,?_,?_,?_,trivial⟩ <;> intro x w2 f b hd;·exact zi
    ·exact zi
    ·have d1:x 1=_:=hd 1 Wr;have y0:=f.cell (za (o:=0) H2.o rfl) Wz;exact zi
    ·have d2:x 2=_:=hd 2 Wr;have A:=vq r.id w2;go_wp2_with (go_at_call 55;refine A.mh ?_;rintro e w5 rfl H);exact⟨rfl,H.o⟩
    ·have d3:x 3=_:=hd 3 Wr;exact zi
    ·exact zi
    ·have d5:x 5=_:=hd 5 Wr;have y0:=f.cell (za (o:=1) H2.o rfl) Wz;exact zi
    ·have d6:x 6=_:=hd 6 Wr;have A:=vq r.sig w2;go_wp2_with (go_at_call 55;refine A.mh ?_;rintro e w5 rfl H);exact⟨rfl,H.o⟩
    ·have d7:x 7=_:=hd 7 Wr;exact zi
    ·have d4:x 4=_:=hd 4 Wr;have d8:x 8=_:=hd 8 Wr;go_wp2;exact⟨⟨w2.heap.size,rfl,XA,Wz,yE w2 [.string QW,.int .i64 4,.int .i64 0,.string r.id,.slice none 0 0,.slice none 0 0,.string Q5,.int .i64 4,.int .i64 0,.string r.sig,.slice none 0 0,.slice none 0 0] 6 2 _ _ rfl rfl Wo⟩,Wd.alloc _⟩
    ·obtain⟨g9,d9,-,-,ak⟩:=hd 9 Wr;have A:=ZO (n:=9) (S:=fun _=>True) (w:=w2) (m:=[(QW,(kB r.id:VS (V 8))),(Q5,(kB r.sig:VS (V 8)))]) (mcs:=[(QW,[.int .i64 4,.int .i64 0,.string r.id,.slice none 0 0,.slice none 0 0]),(Q5,[.int .i64 4,.int .i64 0,.string r.sig,.slice none 0 0,.slice none 0 0])]) (a:=some ⟨g9,0,none⟩) (c:=2) ak (zL.cons ⟨rfl,ZM (n:=8) _ _ _⟩ (zL.cons ⟨rfl,ZM (n:=8) _ _ _⟩ (zL.nil _))) Gv.o;change Calls _ _ #[.slice (some ⟨g9,0,none⟩) 2 2] _ _ at A;clear ak;go_wp2_with (go_at_call 54;refine A.mono ?_;rintro e w5 ⟨s,p⟩;obtain⟨C,m3,D,p3,B,c3,E,y,F,rfl,ho3⟩:=vE s;have Gn:=qI ho3;have H:=qI p;clear p ho3 s);exact⟨⟨_,_,_,_,_,_,_,_,_,rfl,Gn.o⟩,H.o⟩
    ·obtain⟨C,m3,D,p3,B,c3,E,y,F,au,j⟩:=hd 10 Wr;have Gp:=qI (Rep.mono (T:=fun _=>True) j.rep (fun _ _ _=>trivial));clear j;go_wp2_with fail;have G:=(zb.refl [] w2).alloc (.cells #[.int .i64 C,.int .i64 m3,.string D,.slice p3 B c3,.slice E y F] 25);exact⟨⟨w2.heap.size,C,m3,D,p3,B,c3,E,y,F,rfl,yE w2 [.int .i64 C,.int .i64 m3,.string D,.slice p3 B c3,.slice E y F] 5 1 _ _ rfl rfl Wo,Gp.o.k0 G⟩,G⟩
   ·intro x w6 f b hd I;have d0:x 0=_:=hd 0 Wo;obtain⟨gx,C,m3,D,p3,B,c3,E,y,F,ar,al,am⟩:=hd 11 Wo;have Jb:=qI f;have Jl:=qI al;have Jm:=qI am;clear hd I f al am;change wpList _ _ _ [_,_] _ _;go_wp2_with (at_builtin;refine zz Kr (base:=w6.heap.size) (v:=.slice none 0 0) (n:=0) (xs:=[]) (World.ownsRow_nil _ _ _ _) Jl.o (by intro u hu;simp only [XY,Xi,uC] at hu;rcases hu with rfl | rfl | rfl | rfl | rfl <;> rfl) Wo Wo (XA) rfl _ _ rfl d0 ar ?_;intro v7 w7 J K _ ap;obtain⟨a7,c7,rfl,-,-⟩:=(Slc.of_row J).form;have Jc:=qI (Slc.of_row J);have Jd:=qI K;clear J K ap);case roundEnd=>have K:zb [] w6 w7:=Jd.o.mono (by simp [Value.ownBlock]);exact⟨⟨1,a7,c7,[[.int .i64 C,.int .i64 m3,.string D,.slice p3 B c3,.slice E y F]],rfl,Gm.o,rfl,fun h=>absurd h Wo,Jc.o,zL.cons (Jm.o.k0 K) (zL.nil _),(H.o.then Jb.o).then K⟩,by have:=Gm.o;simp [intOf];omega⟩
  ·obtain rfl:k=m:=by omega
   clear hz M;have ax:¬ (k:Int)<k:=Ws;have CL:Hid (∀ w2,zb [] wr w2→Calls prog 57 #[.slice a' k c'] w2 fun e w'=>New 11 w2 w' e X1∧zb [] w2 w'):=qI (fun w2 M=>by
    have h0:=Gz.o;rw [Xl (XC HM.o)] at h0;have h1:=valList_any (n:=10) (S:=fun _=>True) (w:=w2) (l:=l.map jT) (lcs:=lcs) (a:=a') (c:=c') (by rw [Xb,HM.o];exact Gy.o.k0 M) (h0.mono fun _ _ _ r=>r.k0 M) Jg.o;rw [Xb,HM.o] at h1;rw [Ji.o];exact h1)
   have Gq:=qI (Gk.o.heap Ga.o Wz);have Gx:=qI (Gx.o.k0 Gk.o);have Jn:=Gk;go_upto_region 9 with fail
   refine yG (n:=42) 11 [fI (.slice a' k c'),
    KZ 11 X1,
    pairRepFact 11 bN X1,
    fI (.pointer (some ⟨w.heap.size,0,none⟩)),
    fI (.agg #[.int .i64 kd,.int .i64 P,.string st,.slice R Q O,.slice p2 N W]),
    fI (.agg #[.string JL,.int .i64 kd,.int .i64 P,.string st,.slice R Q O,.slice p2 N W]),
    pair2Fact 11 bN X1 JL v,
    KZ 12 X,
    encFact t z,
    J1 t,
    fI (.int .i64 z)] Wr rfl Wr (fun x=>qB) ?_ ?_
   ·refine⟨?_,?_,?_,?_,?_,?_,?_,?_,?_,?_,?_,trivial⟩ <;> intro x w2 f b hd;·exact zi
    ·have d0:x 0=_:=hd 0 Wr;have A:=CL.o w2 f;go_wp2_with (go_at_call 57;refine A.mono ?_;rintro e w5 ⟨s,p⟩;obtain⟨C,m3,D,p3,B,c3,E,y,F,rfl,ho3⟩:=vE s;have Gn:=qI ho3;have H:=qI p;clear p ho3 s);exact⟨⟨_,_,_,_,_,_,_,_,_,rfl,Gn.o⟩,H.o⟩
    ·obtain⟨C,m3,D,p3,B,c3,E,y,F,d1,j⟩:=hd 1 Wr;have Gp:=qI (Rep.mono (T:=fun _=>True) j.rep (fun _ _ _=>trivial));clear j;go_wp2;exact⟨⟨_,_,_,_,_,_,_,_,_,rfl,Gp.o⟩,Wd⟩
    ·exact zi
    ·have d3:x 3=_:=hd 3 Wr;have y0:=f.cell (za (o:=0) Gq.o rfl) Wz;have y1:=f.cell (za (o:=1) Gq.o rfl) Wz;have y2:=f.cell (za (o:=2) Gq.o rfl) Wz;have y3:=f.cell (za (o:=3) Gq.o rfl) Wz;have y4:=f.cell (za (o:=4) Gq.o rfl) Wz;exact zi
    ·have d4:x 4=_:=hd 4 Wr;exact zi
    ·have d5:x 5=_:=hd 5 Wr;obtain⟨C,m3,D,p3,B,c3,E,y,F,d2,j⟩:=hd 2 Wr;have Gp:=qI j;clear j;go_wp2_with fail;have G:=(zb.refl [] w2).alloc (.cells #[.string bN,.int .i64 C,.int .i64 m3,.string D,.slice p3 B c3,.slice E y F,.string JL,.int .i64 kd,.int .i64 P,.string st,.slice R Q O,.slice p2 N W] 41);exact⟨⟨w2.heap.size,[.int .i64 C,.int .i64 m3,.string D,.slice p3 B c3,.slice E y F],[.int .i64 kd,.int .i64 P,.string st,.slice R Q O,.slice p2 N W],rfl,yE w2 [.string bN,.int .i64 C,.int .i64 m3,.string D,.slice p3 B c3,.slice E y F,.string JL,.int .i64 kd,.int .i64 P,.string st,.slice R Q O,.slice p2 N W] 6 2 _ _ rfl rfl Wo,Gp.o.k0 G,((Gx.o.k0 f).mono (fun _ _ _=>trivial)).k0 G⟩,G⟩
    ·obtain⟨g6,ao,aq,d6,ag,ae,ai⟩:=hd 6 Wr;have A:=ZO (n:=11) (S:=fun _=>True) (w:=w2) (m:=[(bN,X1),(JL,v)]) (mcs:=[(bN,ao),(JL,aq)]) (a:=some ⟨g6,0,none⟩) (c:=2) ag (zL.cons ⟨rfl,ae⟩ (zL.cons ⟨rfl,ai⟩ (zL.nil _))) (by rw [Gs.o];exact Jf.o);change Calls _ _ #[.slice (some ⟨g6,0,none⟩) 2 2] _ _ at A;rw [Gs.o] at A;clear ag ae ai;go_wp2_with (go_at_call 54;refine A.mono ?_;rintro e w5 ⟨s,p⟩;obtain⟨C,m3,D,p3,B,c3,E,y,F,rfl,ho3⟩:=vE s;have Gn:=qI ho3;have H:=qI p;clear p ho3 s);exact⟨⟨_,_,_,_,_,_,_,_,_,rfl,Gn.o⟩,H.o⟩
    ·obtain⟨C,m3,D,p3,B,c3,E,y,F,d7,j⟩:=hd 7 Wr;have A:=CE.o w2 _ _ (Gk.o.then f) j.rep;clear j;go_wp2_with (go_at_call 56;refine A.mono ?_;rintro e w5 ⟨⟨q,d,rfl,af⟩,p⟩;have Je:=qI af;have H:=qI p;clear p af);exact⟨⟨_,_,rfl,Je.o⟩,H.o⟩
    ·obtain⟨q,d,d8,hb⟩:=hd 8 Wr;have HB:=qI hb;clear hb;go_wp2;exact⟨⟨_,_,rfl,HB.o⟩,Wd⟩
    ·obtain⟨q,d,d8,-⟩:=hd 8 Wr;exact zi
   ·intro x w7 f b7 hd I;obtain⟨q,d,d9,hb⟩:=hd 9 Wo;have au:x 10=_:=hd 10 Wo;have HB:=qI hb;have Jd:=qI f;clear hd I f hb;change wpList _ _ _ [_,_] _ _;go_wp2;go_ret2;exact⟨⟨q,d,rfl,HB.o⟩,Gf.o.then (Gk.o.then Jd.o)⟩
theorem all_snoc (p:α→Bool)(l:List α)(k:Nat)(a:k<l.length):(l.take (k+1)).all p=((l.take k).all p&&p l[k]):=by
 rw [XZ a,VH];simp
theorem all_false {p:α→Bool}{l:List α}{k:Nat}(a:k<l.length)(h:p l[k]=false):l.all p=false:=by
 rw [List.all_eq_false];exact⟨l[k],XX _,by simp [h]⟩
theorem refMay17_any {cs:List Value}{v:V n}{c:Nat}(h:Env n S w cs v a c l) : zG w 9 #[.agg (zaQ cs a l.length c).toArray] (.bool (yd n v l)):=by
 obtain⟨kd,nm,st,Y,X,d1,p2,R,W,rfl⟩:=h.rep.conv;obtain⟨E,A⟩:=XE (w.alloc (.cells #[.int .i64 kd,.int .i64 nm,.string st,.slice Y X d1,.slice p2 R W,.slice a l.length c] 28));have s:Hid (zb [] w E):=qI (kA1 A.o);have Ga:Hid (E.heap[w.heap.size]? = some (.cells #[.int .i64 kd,.int .i64 nm,.string st,.slice Y X d1,.slice p2 R W,.slice a l.length c] 28 (0,0))):=qI (by rw [A.o];exact zd rfl);have z:=qI (h.k0 s.o);have P:Hid (xz E 26 #[.agg #[.int .i64 kd,.int .i64 nm,.string st,.slice Y X d1,.slice p2 R W]] (.int .i64 (zV n v))):=qI (fun w2 d=>refCheck_any (z.o.rep.k0 d) z.o.small z.o.deep);have CD:Hid (xz E 27 #[.agg #[.int .i64 kd,.int .i64 nm,.string st,.slice Y X d1,.slice p2 R W]] (.int .i64 (zM n v))):=qI (fun w2 d=>depth_any n v (z.o.rep.k0 d) z.o.small z.o.deep);have j:Hid (yd n v l=(decide (kd=6)&&(decide (zV n v=0)&&(decide (zM n v<12)&&(decide (l.length≤16)&&l.all xo))))):=qI (by unfold yd;rw [← z.o.rep.kindE]);have Gw:Hid (∀ i (hi:i<l.length),∃ g o,a=some ⟨g,o,none⟩∧E.cell? ⟨g,o+i*2,none⟩=some (.string l[i].id)∧E.cell? ⟨g,o+i*2+1,none⟩=some (.string l[i].sig)∧l[i].small):=qI (fun i hi=>by
  obtain⟨g,o,h1,-,-,h2⟩:=z.o.rows.cells Ws;exact⟨g,o,h1,h2 i hi 0 _ rfl,h2 i hi 1 _ rfl,h.texts _ (XX _)⟩)
 have ab:zM n v≤100:=X7 (jw n v) h.deep;have ae:=h.few;clear h;generalize yd n v l=M at j ⊢;generalize zV n v=K at P j;generalize zM n v=D at CD j ab;obtain⟨m,Gt⟩:=XE l.length;rw [← Gt.o] at A Ga j ae;have ah:(D:Int)≤100:=Ws;have ag:(m:Int)≤1000000:=Ws;obtain⟨c0,c1,c2,c3,c4,c5⟩:=yz Ga.o;show Calls _ _ #[.agg #[.int .i64 kd,.int .i64 nm,.string st,.slice Y X d1,.slice p2 R W,.slice a l.length c]] _ _;rw [← Gt.o];by_cases h6:kd=6;rotate_left;·obtain⟨f1,f2⟩:=zq h6;rw [XO h6] at j;clear h6;go_enter func9,ntmps9;go_upto_region 1 with fail;refine yZ A.o ?_;go_wp2;go_ret;exact⟨by rw [j.o];rfl,s.o⟩
 rw [XT h6] at j;subst h6;by_cases hc:K=0;rotate_left;·obtain⟨f1,f2⟩:=zq hc;rw [XO hc] at j;clear hc;go_enter func9,ntmps9;go_upto_region 1 with fail;refine yZ A.o ?_;go_wp2_with (go_at_call 26;refine (P.o _ Wd).mono ?_;rintro e w1 ⟨rfl,d⟩;obtain⟨H,N,O,G,J,r⟩:=VO d c0 c1 c2 c3 c4 c5;have q:=qI d;clear d c0 c1 c2 c3 c4 c5);go_ret;exact⟨by rw [j.o];rfl,s.o.then q.o⟩
 rw [XT hc] at j;subst hc;by_cases hd:D<12;rotate_left
 ·have aa:(11:Int)<D:=by omega
  rw [XO hd] at j;clear hd;go_enter func9,ntmps9;go_upto_region 1 with fail;refine yZ A.o ?_;go_wp2_with first
   | (go_at_call 26;refine (P.o _ Wd).mono ?_;rintro e w1 ⟨rfl,d⟩;obtain⟨H,N,O,G,J,r⟩:=VO d c0 c1 c2 c3 c4 c5;have q:=qI d;clear d c0 c1 c2 c3 c4 c5)
   | (go_at_call 27;refine (CD.o _ q.o).mono ?_;rintro e w2 ⟨rfl,d⟩;have z5:=d.cell r Wz;have Q:=qI (q.o.then d);clear d H N O G J r)
  go_ret;exact⟨by rw [j.o];rfl,s.o.then Q.o⟩
 have aa:(D:Int)≤11:=Ws;rw [XT hd] at j;clear hd;by_cases hm:m≤16;rotate_left
 ·have Z:(16:Int)<m:=by omega
  rw [XO hm] at j;clear hm;go_enter func9,ntmps9;go_upto_region 1 with fail;refine yZ A.o ?_;go_wp2_with first
   | (go_at_call 26;refine (P.o _ Wd).mono ?_;rintro e w1 ⟨rfl,d⟩;obtain⟨H,N,O,G,J,r⟩:=VO d c0 c1 c2 c3 c4 c5;have q:=qI d;clear d c0 c1 c2 c3 c4 c5)
   | (go_at_call 27;refine (CD.o _ q.o).mono ?_;rintro e w2 ⟨rfl,d⟩;have z5:=d.cell r Wz;have Q:=qI (q.o.then d);clear d H N O G J r)
  go_ret;exact⟨by rw [j.o];rfl,s.o.then Q.o⟩
 ·have Z:(m:Int)≤16:=by omega
  rw [XT hm] at j;have Jj:Hid (M=l.all xo):=qI (by rw [j.o];rfl);clear hm j;go_enter func9,ntmps9;go_upto_region 1 with fail;refine yZ A.o ?_;have Je:=qI c5;go_wp2_with first
   | (go_at_call 26;refine (P.o _ Wd).mono ?_;rintro e w1 ⟨rfl,d⟩;obtain⟨H,N,O,G,J,r⟩:=VO d c0 c1 c2 c3 c4 c5;have q:=qI d;clear d c0 c1 c2 c3 c4 c5)
   | (go_at_call 27;refine (CD.o _ q.o).mono ?_;rintro e w2 ⟨rfl,d⟩;have z5:=d.cell r Wz;have Q:=qI (q.o.then d);clear d H N O G J r)
  go_loopw [3,4,5] (fun t3 _ _ wr=>∃ k:Nat,t3 = .int .i64 k∧k≤m∧Hid (zb [] E wr)∧Hid ((l.take k).all xo=true)) (fun t3 _ _ _=>m-(intOf t3).toNat);case atStart=>exact⟨0,rfl,XB,Q,qI Wz⟩
  case round=>
   obtain⟨k,rfl,d,y,Jk⟩:=hrel;have I:=y.o.cell Je.o Wz;clear z5;rcases Xr k m with hlt | hge
   ·have u:k<l.length:=XC Gt.o;obtain⟨g,o,rfl,q0,q1,x⟩:=Gw.o k u;have e0:=y.o.cell q0 Wz;have B:=y.o.cell q1 Wz;clear q0 q1;have ai:(k:Int)<m:=Ws;have Gm:=qI hlt;have Gu:Hid (xo l[k]=false→M=false):=qI (fun h9=>by rw [Jj.o];exact all_false u h9);have Gr:Hid (xo l[k]=true→(l.take (k+1)).all xo=true):=qI (fun h9=>by rw [all_snoc _ _ _ u,Jk.o,h9];rfl);have t:Hid (xo l[k]=(Zx l[k].id&&((xn l[k].sig).isSome&&decide (l[k].sig.size≤1048576)))):=qI rfl;have L:Hid (∀ w2,Calls prog 28 #[.string l[k].sig] w2 fun e w'=>UnhexR w2 w' e (xn l[k].sig)∧zb [] w2 w'):=qI (fun w2=>KR l[k].sig x.2 w2);have CI:Hid (∀ w2,Calls prog 29 #[.string l[k].id] w2 fun e w'=>e = .returned (.bool (Zx l[k].id))∧zb [] w2 w'):=qI (fun w2=>refId_any l[k].id x.1 w2);have F:=x.2;generalize xo l[k]=rb at Gu Gr t;generalize Zx l[k].id=ib at CI t;generalize l[k].id=s1 at e0 CI;generalize xn l[k].sig=us at L t;generalize l[k].sig=s2 at B L t F;clear d hlt u x;cases us with
    | none=>have HF:Hid (M=false):=qI (Gu.o (by rw [t.o];cases ib <;> rfl));go_wp2_with (go_at_call 28;refine (L.o _).mono ?_;rintro e w3 ⟨hu,f⟩;have hu:e = .returned (.tuple #[.slice none 0 0,.bool false]):=hu;subst hu;have C:=qI f;clear f);go_ret;exact⟨by rw [HF.o] <;> rfl,s.o.then (y.o.then C.o)⟩
    | some b=>
     by_cases hz:s2.size≤1048576;rotate_left
     ·have ad:(1048576:Int)<s2.size:=by omega
      have HF:Hid (M=false):=qI (Gu.o (by rw [t.o,XO hz];cases ib <;> rfl));clear hz F;go_wp2_with (go_at_call 28;refine (L.o _).mono ?_;rintro e w3 ⟨⟨a3,U,rfl,-,-⟩,f⟩;have B:=f.cell B Wz;have I:=f.cell I Wz;have C:=qI f;clear f);go_ret;exact⟨by rw [HF.o] <;> rfl,s.o.then (y.o.then C.o)⟩
     ·have ad:(s2.size:Int)≤1048576:=by omega
      rw [XT hz] at t;clear hz F;cases ib with
      | false=>
       have HF:Hid (M=false):=qI (Gu.o (by rw [t.o];rfl));go_wp2_with first
        | (go_at_call 28;refine (L.o _).mono ?_;rintro e w3 ⟨⟨a3,U,rfl,-,-⟩,f⟩;obtain⟨e0,B,I⟩:=VR f e0 B I;have C:=qI f;clear f)
        | (go_at_call 29;refine (CI.o _).mono ?_;rintro e w4 ⟨rfl,p⟩;have Gj:=qI (C.o.then p);clear p)
       go_ret;exact⟨by rw [HF.o] <;> rfl,s.o.then (y.o.then Gj.o)⟩
      | true=>
       have HT:Hid ((l.take (k+1)).all xo=true):=qI (Gr.o (by rw [t.o];rfl));go_wp2_with first
        | (go_at_call 28;refine (L.o _).mono ?_;rintro e w3 ⟨⟨a3,U,rfl,-,-⟩,f⟩;obtain⟨e0,B,I⟩:=VR f e0 B I;have C:=qI f;clear f)
        | (go_at_call 29;refine (CI.o _).mono ?_;rintro e w4 ⟨rfl,p⟩;have Gj:=qI (C.o.then p);clear p)
       case roundEnd=>exact⟨⟨k+1,by go_num,Gm.o,qI (y.o.then Gj.o),HT⟩,by have:=Gm.o;simp [intOf];omega⟩
   ·obtain rfl:k=m:=by omega
    have HT:Hid (M=true):=qI (by have h1:=Jk.o;rw [Xl (XC Gt.o)] at h1;rw [Jj.o,h1]);have af:¬ ((k:Int)<k):=Ws;clear hge d;go_wp2;go_ret;exact⟨by rw [HT.o] <;> rfl,s.o.then y.o⟩
attribute [local go_sem] Oper.semAt_some
def sameE (n:Nat)(va vb:V n)(la lb:List yg):Bool:=yd n va la&&(yd n vb lb&&(eqL ye la lb&&Q7 n va vb))
theorem sameE_self (n:Nat)(v:V n)(l:List yg):sameE n v v l l=yd n v l:=by
 unfold sameE;cases h:yd n v l with
 | false=>rfl
 | true=>
  have hc:zV n v=0:=by unfold yd at h;simp only [XR,Xa] at h;exact h.2.1
  rw [eqR_self,same_c hc hc,(eqV_iff n _ _).2 rfl];rfl
theorem sgnSame_any {T:Nat→Prop}{ca cb:List Value}{R U:V n}{b:Option Addr}{c d:Nat}{u lb:List yg}(h:Env n S w ca R a c u)(h':Env n T w cb U b d lb)(hn:n≤100)(ht:xS w) : zG w 7 #[.agg (zaQ ca a u.length c).toArray,.agg (zaQ cb b lb.length d).toArray] (.bool (sameE n R U u lb)):=by
 obtain⟨kd,nm,st,p1,i1,d1,p2,i2,d2,rfl⟩:=h.rep.conv;obtain⟨r,t,s,q1,j1,Q,q2,X,Y,rfl⟩:=h'.rep.conv;obtain⟨z,J⟩:=XE ((w.alloc (.cells #[.int .i64 kd,.int .i64 nm,.string st,.slice p1 i1 d1,.slice p2 i2 d2,.slice a u.length c] 28)).alloc (.cells #[.int .i64 r,.int .i64 t,.string s,.slice q1 j1 Q,.slice q2 X Y,.slice b lb.length d] 28));have Gf:Hid (zb [] w z):=qI (kA2 J.o);have Ga:Hid (kO z w.heap.size kd nm st (.slice p1 i1 d1) (.slice p2 i2 d2) (.slice a u.length c)):=qI (by rw [J.o];exact ((zb.refl [] _).alloc _).heap (zd rfl) Wz);have Gl:Hid (kO z (w.heap.size+1) r t s (.slice q1 j1 Q) (.slice q2 X Y) (.slice b lb.length d)):=qI (by rw [J.o];exact zd Wz);have HE:=qI (h.k0 Gf.o);have HF:=qI (h'.k0 Gf.o);have HT:=qI (ht.k0 Gf.o);have CA:Hid (zG z 21 #[.agg #[.int .i64 kd,.int .i64 nm,.string st,.slice p1 i1 d1,.slice p2 i2 d2,.slice a u.length c]] (.bool (yd n R u))):=qI (by have h1:=qZ HE.o HT.o;exact h1);have CB:Hid (xz z 21 #[.agg #[.int .i64 r,.int .i64 t,.string s,.slice q1 j1 Q,.slice q2 X Y,.slice b lb.length d]] (.bool (yd n U lb))):=qI (fun w2 C=>by have h1:=qZ (HF.o.k0 C) (HT.o.k0 C);exact h1);have CE:Hid (xz z 22 #[.slice a u.length c,.slice b lb.length d] (.bool (eqL ye u lb))):=qI (fun w2 C=>slcEqual_any (HE.o.rows.k0 C) (HF.o.rows.k0 C) HE.o.few HF.o.few);have CS:Hid (xz z 23 #[.agg #[.int .i64 kd,.int .i64 nm,.string st,.slice p1 i1 d1,.slice p2 i2 d2],.agg #[.int .i64 r,.int .i64 t,.string s,.slice q1 j1 Q,.slice q2 X Y]] (.bool (Q7 n R U))):=qI (fun w2 C=>by have h1:=valSame_any (HE.o.rep.k0 C) (HF.o.rep.k0 C) HE.o.small HF.o.small hn (HT.o.k0 C);exact h1);clear h h' ht;obtain⟨q,hq⟩:=XF (sameE n R U u lb);rw [← hq];obtain⟨ba,ad⟩:=XF (yd n R u);obtain⟨bb,aa⟩:=XF (yd n U lb);obtain⟨be,ab⟩:=XF (eqL ye u lb);obtain⟨bs,Z⟩:=XF (Q7 n R U);have HQ:Hid (q=(ba&&(bb&&(be&&bs)))):=qI (by rw [hq,ad,aa,ab,Z];rfl);clear hq;rw [← ad] at CA;have CB:Hid (xz z 21 #[.agg #[.int .i64 r,.int .i64 t,.string s,.slice q1 j1 Q,.slice q2 X Y,.slice b lb.length d]] (.bool bb)):=qI (by rw [aa];exact CB.o);have CE:Hid (xz z 22 #[.slice a u.length c,.slice b lb.length d] (.bool be)):=qI (by rw [ab];exact CE.o);have CS:Hid (xz z 23 #[.agg #[.int .i64 kd,.int .i64 nm,.string st,.slice p1 i1 d1,.slice p2 i2 d2],.agg #[.int .i64 r,.int .i64 t,.string s,.slice q1 j1 Q,.slice q2 X Y]] (.bool bs)):=qI (by rw [Z];exact CS.o);clear ad aa ab Z;generalize u.length=ma at J Ga CA CE ⊢;generalize lb.length=mb at J Gl CB CE ⊢;show Calls _ _ #[.agg #[.int .i64 kd,.int .i64 nm,.string st,.slice p1 i1 d1,.slice p2 i2 d2,.slice a ma c],.agg #[.int .i64 r,.int .i64 t,.string s,.slice q1 j1 Q,.slice q2 X Y,.slice b mb d]] _ _;obtain⟨c0,c1,c2,c3,c4,c5⟩:=yz Ga.o;obtain⟨O,N,P,M,m,p⟩:=yz Gl.o;cases ba with
 | false=>
  go_enter func7,ntmps7;go_upto_region 1 with fail;rw [← J.o];go_wp2_with first | (go_at_call 21;refine CA.o.mono ?_;rintro e w2 ⟨rfl,f⟩;have y:=qI f;obtain⟨D,H,L,A,E,B⟩:=VO f c0 c1 c2 c3 c4 c5;obtain⟨K,I,F,G,l,k⟩:=VO f O N P M m p;clear f c0 c1 c2 c3 c4 c5 O N P M m p)
  go_ret;exact⟨by rw [HQ.o];simp,Gf.o.then y.o⟩
 | true=>
  cases bb with
  | false=>
   go_enter func7,ntmps7;go_upto_region 1 with fail;rw [← J.o];go_wp2_with first | (go_at_call 21;refine (CB.o _ y.o).mono ?_;rintro e w3 ⟨rfl,i⟩;have W:=qI (y.o.then i);obtain⟨z0,z1,z2,z3,z4,z5⟩:=VO i D H L A E B;obtain⟨z6,z7,z8,z9,v,x⟩:=VO i K I F G l k;clear i D H L A E B K I F G l k) | (go_at_call 21;refine CA.o.mono ?_;rintro e w2 ⟨rfl,f⟩;have y:=qI f;obtain⟨D,H,L,A,E,B⟩:=VO f c0 c1 c2 c3 c4 c5;obtain⟨K,I,F,G,l,k⟩:=VO f O N P M m p;clear f c0 c1 c2 c3 c4 c5 O N P M m p)
   go_ret;exact⟨by rw [HQ.o];simp,Gf.o.then W.o⟩
  | true=>
   cases be with
   | false=>
    go_enter func7,ntmps7;go_upto_region 1 with fail;rw [← J.o];go_wp2_with first | (go_at_call 22;refine (CE.o _ W.o).mono ?_;rintro e w4 ⟨rfl,j⟩;have Gj:=qI (W.o.then j);obtain⟨u0,u1,u2,u3,u4,u5⟩:=VO j z0 z1 z2 z3 z4 z5;obtain⟨u6,u7,u8,u9,ae,af⟩:=VO j z6 z7 z8 z9 v x;clear j z0 z1 z2 z3 z4 z5 z6 z7 z8 z9 v x) | (go_at_call 21;refine (CB.o _ y.o).mono ?_;rintro e w3 ⟨rfl,i⟩;have W:=qI (y.o.then i);obtain⟨z0,z1,z2,z3,z4,z5⟩:=VO i D H L A E B;obtain⟨z6,z7,z8,z9,v,x⟩:=VO i K I F G l k;clear i D H L A E B K I F G l k) | (go_at_call 21;refine CA.o.mono ?_;rintro e w2 ⟨rfl,f⟩;have y:=qI f;obtain⟨D,H,L,A,E,B⟩:=VO f c0 c1 c2 c3 c4 c5;obtain⟨K,I,F,G,l,k⟩:=VO f O N P M m p;clear f c0 c1 c2 c3 c4 c5 O N P M m p)
    go_ret;exact⟨by rw [HQ.o];simp,Gf.o.then Gj.o⟩
   | true=>
    go_enter func7,ntmps7;go_upto_region 1 with fail;rw [← J.o];go_wp2_with first | (go_at_call 23;refine (CS.o _ Gj.o).mono ?_;rintro e w5 ⟨rfl,ag⟩;have Gc:=qI (Gj.o.then ag);clear ag u0 u1 u2 u3 u4 u5 u6 u7 u8 u9 ae af) | (go_at_call 22;refine (CE.o _ W.o).mono ?_;rintro e w4 ⟨rfl,j⟩;have Gj:=qI (W.o.then j);obtain⟨u0,u1,u2,u3,u4,u5⟩:=VO j z0 z1 z2 z3 z4 z5;obtain⟨u6,u7,u8,u9,ae,af⟩:=VO j z6 z7 z8 z9 v x;clear j z0 z1 z2 z3 z4 z5 z6 z7 z8 z9 v x) | (go_at_call 21;refine (CB.o _ y.o).mono ?_;rintro e w3 ⟨rfl,i⟩;have W:=qI (y.o.then i);obtain⟨z0,z1,z2,z3,z4,z5⟩:=VO i D H L A E B;obtain⟨z6,z7,z8,z9,v,x⟩:=VO i K I F G l k;clear i D H L A E B K I F G l k) | (go_at_call 21;refine CA.o.mono ?_;rintro e w2 ⟨rfl,f⟩;have y:=qI f;obtain⟨D,H,L,A,E,B⟩:=VO f c0 c1 c2 c3 c4 c5;obtain⟨K,I,F,G,l,k⟩:=VO f O N P M m p;clear f c0 c1 c2 c3 c4 c5 O N P M m p)
    go_ret;exact⟨by rw [HQ.o];simp,Gf.o.then Gc.o⟩
end Go.Proofs.YtjccecajigmfkaaGreatDoor

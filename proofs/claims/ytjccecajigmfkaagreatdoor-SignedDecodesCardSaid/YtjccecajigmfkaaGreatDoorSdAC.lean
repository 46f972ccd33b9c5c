/- Parts of one proof, merged: XCZ. -/
import Derived.Test.YtjccecajigmfkaaGreatDoorSdX
import Derived.Test.YtjccecajigmfkaaGreatDoorSdAB
set_option linter.all false
set_option maxHeartbeats 12800000
set_option maxRecDepth 100000
namespace Go.Proofs.YtjccecajigmfkaaGreatDoor
open Go.Proofs.Tryz
open Go.RowKit
attribute [local go_sem] Oper.semAt_some
variable {b:List UInt8}
def goodB (k:yY)(m b:List UInt8):Bool:=yl k&&(bO k.bits.toNat k.height.toNat b&&verS k.root m (kH k.bits.toNat k.height.toNat b))
def Kw (n:Nat)(v:V n)(l:List yg)(r:yg)(k:yY):Bool:=yd n v l&&(decide (r.id=qe k)&&goodB k (kY n v l) ((xn r.sig).getD []))
def J1 (l:List UInt8):jd (zb []):=⟨fun v _ w=>∃ q d,v = .slice q l.length d∧zm w (.slice q l.length d) l,fun _ _ _ _ ⟨q,d,h1,h2⟩ k=>⟨q,d,h1,h2.k0 k⟩⟩
theorem unhex_len {s:ByteArray}(h:xn s=some b):b.length≤s.size/2:=by
 unfold xn at h;split at h
 ·cases h
  rw [ZT];exact XA
 ·cases h
theorem encV_len (n:Nat)(v:V n):(xV n v).1.length≤262144:=by
 unfold xV;split;·simp
 ·split;·simp
  ·simp only;omega
theorem bodyB_len (n:Nat)(v:V n)(l:List yg):(kY n v l).length≤1048576:=by
 unfold kY;split;·have:=encV_len n v;omega
 ·simp
theorem mayKey_nat {k:yY}(h:yl k=true):k.bits=(k.bits.toNat:Nat)∧k.height=(k.height.toNat:Nat)∧k.bits.toNat≤256∧k.height.toNat≤6:=by
 unfold yl xw at h;simp only [XR,Xa] at h;omega
theorem sigOf_fine {a d:Nat}(h:bO a d b=true):(kH a d b).leaf≤1073741824∧(kH a d b).one.rev.length=a∧(kH a d b).one.oth.length=a∧(kH a d b).way.length=d∧yU (kH a d b).one.rev∧yU (kH a d b).one.oth∧yU (kH a d b).way:=by
 unfold bO at h;simp only [XR,Xa] at h;have e:((b.drop 4).take (64*a)).length=64*a:=by simp;omega
 have h2:((b.drop (4+64*a)).take (32*d)).length=32*d:=by simp;omega
 exact⟨h.2,(zbD _ _).1,(zbD _ _).2,zbh _ _ _,(decO_32 e).1,(decO_32 e).2,cutL_32 h2⟩
theorem holds_any {n:Nat}{S:Nat→Prop}{w:World}{cs:List Value}{v:V n}{a:Option Addr}{c:Nat}{l:List yg}(h:Env n S w cs v a c l)(ht:xS w)(an:kg w)(k:yY)(aa:YR k.bits)(hr:k.root.length=32)(i:Nat)(hi:i<l.length) : zG w 17 #[.agg (zaQ cs a l.length c).toArray,.int .i64 i,.agg (yV k)] (.bool (Kw n v l l[i] k)):=by
 obtain⟨kd,N,st,Q,P,A,p2,L,r,rfl⟩:=h.rep.conv;obtain⟨g,o,rfl,-,-,I⟩:=h.rows.cells Ws;obtain⟨G,Gg⟩:=XE ((w.alloc (.cells #[.int .i64 kd,.int .i64 N,.string st,.slice Q P A,.slice p2 L r,.slice (some ⟨g,o,none⟩) l.length c] 28)).alloc (.cells (yV k) 51));have U:Hid (zb [] w G):=qI (kA2 Gg.o);have Gf:Hid (G.heap[w.heap.size]? = some (.cells #[.int .i64 kd,.int .i64 N,.string st,.slice Q P A,.slice p2 L r,.slice (some ⟨g,o,none⟩) l.length c] 28 (0,0))):=qI (by rw [Gg.o];exact ((zb.refl [] _).alloc _).heap (zd rfl) Wz);have HA:Hid (yS G (w.heap.size+1) k):=qI (by rw [Gg.o];exact zd Wz);have HE:=qI (h.k0 U.o);have HT:=qI (ht.k0 U.o);have Gr:=qI (an.k0 U.o);have CM:Hid (xz G 21 #[.agg #[.int .i64 kd,.int .i64 N,.string st,.slice Q P A,.slice p2 L r,.slice (some ⟨g,o,none⟩) l.length c]] (.bool (yd n v l))):=qI (fun w2 y=>by have t:=qZ (HE.o.k0 y) (HT.o.k0 y);exact t);have CB:Hid (∀ w2,zb [] G w2→Calls prog 20 #[.agg #[.int .i64 kd,.int .i64 N,.string st,.slice Q P A,.slice p2 L r,.slice (some ⟨g,o,none⟩) l.length c]] w2 fun e u=>(∃ q d,e = .returned (.slice q (kY n v l).length d)∧zm u (.slice q (kY n v l).length d) (kY n v l))∧zb [] w2 u):=qI (fun w2 y=>by have t:=zbx (HE.o.k0 y) (HT.o.k0 y);exact t);have CI:Hid (xz G 51 #[.agg (yV k)] (.string (qe k))):=qI (fun w2 y=>keyId_any k aa hr w2 (HT.o.k0 y) (Gr.o.k0 y));have Gm:Hid (G.cell? ⟨g,o+i*2,none⟩=some (.string l[i].id)):=qI (U.o.cell (I i hi 0 _ rfl) Wz);have Gs:Hid (G.cell? ⟨g,o+i*2+1,none⟩=some (.string l[i].sig)):=qI (U.o.cell (I i hi 1 _ rfl) Wz);have CU:=qI (fun w2=>J9 l[i].sig (h.texts l[i] (XX _)).2 w2);have Gn:Hid (yd n v l=true→∃ b,xn l[i].sig=some b∧b.length≤524288):=qI (fun hm=>by
  unfold yd at hm;simp only [XR,Xk] at hm;have t:=hm.2.2.2.2 l[i] (XX _);unfold xo at t;simp only [XR,Xa] at t;obtain⟨b,hb⟩:=Option.isSome_iff_exists.1 t.2.1;exact⟨b,hb,by have:=unhex_len hb;have:=t.2.2;omega⟩)
 have E:Hid (Kw n v l l[i] k=(yd n v l&&(decide (l[i].id=qe k)&&goodB k (kY n v l) ((xn l[i].sig).getD [])))):=qI rfl;have Gt:=qI (bodyB_len n v l);have a8:(l.length:Int)≤1000000:=XC h.few;have aA:(i:Int)<l.length:=Ws;have Gh:=qI hr;have Gu:=qI aa;clear h ht an hr aa I HE;generalize Kw n v l l[i] k=res at E ⊢;generalize ag:qe k=kid at CI E;clear ag;generalize yd n v l=M at CM Gn E;generalize kY n v l=B at CB E Gt;generalize l[i]=rw at Gm Gs CU Gn E;generalize l.length=m at Gg Gf CM CB a8 aA ⊢;clear hi;have af:decide (m≤i)=false:=XO Ws;obtain⟨c0,c1,c2,c3,c4,c5⟩:=yz Gf.o;show Calls _ _ #[.agg #[.int .i64 kd,.int .i64 N,.string st,.slice Q P A,.slice p2 L r,.slice (some ⟨g,o,none⟩) m c],.int .i64 i,.agg (yV k)] _ _;cases M with
 | false=>
  go_enter func17,ntmps17;go_upto_region 1 with fail;refine yZ Gg.o ?_;go_wp2
  refine yG (n:=61) 24 [fI (.agg #[.int .i64 kd,.int .i64 N,.string st,.slice Q P A,.slice p2 L r,.slice (some ⟨g,o,none⟩) m c]),
   fF,
   fT,
   fT,
   fU,
   fU,
   fT,
   fT,
   fU,
   fU,
   fU,
   fU,
   fU,
   fT,
   fT,
   fU,
   fU,
   fU,
   fU,
   fU,
   fU,
   fU,
   fU,
   fU] Wr rfl Wr (fun x=>qB) ?_ ?_
  ·refine⟨?_,?_,?_,?_,?_,?_,?_,?_,?_,?_,?_,?_,?_,?_,?_,?_,?_,?_,?_,?_,?_,?_,?_,?_,trivial⟩ <;> intro x w2 f b hd;·have y0:=f.cell c0 Wz;obtain⟨y1,y2,y3,y4,R⟩:=VP f c1 c2 c3 c4 c5;exact zi
   ·have d0:x 0=_:=hd 0 Wr;have d0:x 0=_:=hd 0 Wr;have F:=CM.o _ f;go_wp2_with (go_at_call 21;refine F.mh ?_;rintro e w5 rfl D);exact⟨rfl,D.o⟩
   ·have A:x 1=_:=hd 1 Wr;exact zi
   ·have r:x 2=_:=hd 2 Wr;exact zi
   ·have J:x 3=_:=hd 3 Wr;exact zi
   ·have J:x 3=_:=hd 3 Wr;have d4:x 4=_:=hd 4 Wr;exact zi
   ·have J:x 3=_:=hd 3 Wr;have d5:x 5=_:=hd 5 Wr;exact zi
   ·have d6:x 6=_:=hd 6 Wr;exact zi
   ·have s:x 7=_:=hd 7 Wr;exact zi
   ·have s:x 7=_:=hd 7 Wr;exact zi
   ·have s:x 7=_:=hd 7 Wr;have d9:x 9=_:=hd 9 Wr;exact zi
   ·have s:x 7=_:=hd 7 Wr;have a0:x 10=_:=hd 10 Wr;exact zi
   ·have s:x 7=_:=hd 7 Wr;have d8:x 8=_:=hd 8 Wr;have ax:x 11=_:=hd 11 Wr;exact zi
   ·have s:x 7=_:=hd 7 Wr;have a4:x 12=_:=hd 12 Wr;exact zi
   ·have az:x 13=_:=hd 13 Wr;exact zi
   ·have j:x 14=_:=hd 14 Wr;exact zi
   ·have j:x 14=_:=hd 14 Wr;have al:x 15=_:=hd 15 Wr;exact zi
   ·have j:x 14=_:=hd 14 Wr;exact zi
   ·have j:x 14=_:=hd 14 Wr;have ay:x 16=_:=hd 16 Wr;have au:x 17=_:=hd 17 Wr;exact zi
   ·have j:x 14=_:=hd 14 Wr;have ah:x 18=_:=hd 18 Wr;exact zi
   ·have j:x 14=_:=hd 14 Wr;have ab:x 19=_:=hd 19 Wr;exact zi
   ·have j:x 14=_:=hd 14 Wr;exact zi
   ·have j:x 14=_:=hd 14 Wr;have X:x 21=_:=hd 21 Wr;exact zi
   ·have j:x 14=_:=hd 14 Wr;have aj:x 20=_:=hd 20 Wr;have ad:x 22=_:=hd 22 Wr;exact zi
  ·intro x ap f av hd p;have j:x 14=_:=hd 14 Wo;have Gk:=qI f;clear hd p f;change wpList _ _ _ [_] _ _;go_wp2;go_ret;exact⟨by rw [E.o];rfl,U.o.then Gk.o⟩
 | true=>
  obtain⟨b,hb,Z⟩:=Gn.o rfl;rw [hb] at E CU;clear hb;by_cases hid:rw.id=kid;rotate_left
  ·obtain⟨f1,f2⟩:=k7 hid;rw [XO hid] at E;clear hid Z;go_enter func17,ntmps17;go_upto_region 1 with fail;refine yZ Gg.o ?_;go_wp2
   refine yG (n:=61) 24 [fI (.agg #[.int .i64 kd,.int .i64 N,.string st,.slice Q P A,.slice p2 L r,.slice (some ⟨g,o,none⟩) m c]),
    fT,
    fF,
    fF,
    fI (.int .i64 i),
    fF,
    fF,
    fF,
    fI (.int .i64 i),
    fI (.pointer (some ⟨w.heap.size,5,none⟩)),
    fI (.slice (some ⟨g,o,none⟩) m c),
    fI (.int .i64 m),
    fF,
    fF,
    fF,
    fI (.pointer (some ⟨w.heap.size,5,none⟩)),
    fI (.slice (some ⟨g,o,none⟩) m c),
    fI (.int .i64 i),
    fI (.pointer (some ⟨g,o+i*2,none⟩)),
    fI (.pointer (some ⟨g,o+i*2,none⟩)),
    fI (.string rw.id),
    fI (.agg (yV k)),
    fI (.string kid),
    fT] Wr rfl Wr (fun x=>qB) ?_ ?_
   ·refine⟨?_,?_,?_,?_,?_,?_,?_,?_,?_,?_,?_,?_,?_,?_,?_,?_,?_,?_,?_,?_,?_,?_,?_,?_,trivial⟩ <;> intro x w2 f b hd;·have y0:=f.cell c0 Wz;obtain⟨y1,y2,y3,y4,R⟩:=VP f c1 c2 c3 c4 c5;exact zi
    ·have d0:x 0=_:=hd 0 Wr;have d0:x 0=_:=hd 0 Wr;have F:=CM.o _ f;go_wp2_with (go_at_call 21;refine F.mh ?_;rintro e w5 rfl D);exact⟨rfl,D.o⟩
    ·have A:x 1=_:=hd 1 Wr;exact zi
    ·have r:x 2=_:=hd 2 Wr;exact zi
    ·have J:x 3=_:=hd 3 Wr;exact zi
    ·have J:x 3=_:=hd 3 Wr;have d4:x 4=_:=hd 4 Wr;exact zi
    ·have J:x 3=_:=hd 3 Wr;have d5:x 5=_:=hd 5 Wr;exact zi
    ·have d6:x 6=_:=hd 6 Wr;exact zi
    ·have s:x 7=_:=hd 7 Wr;exact zi
    ·have s:x 7=_:=hd 7 Wr;exact zi
    ·have s:x 7=_:=hd 7 Wr;have d9:x 9=_:=hd 9 Wr;have R:=f.cell c5 Wz;exact zi
    ·have s:x 7=_:=hd 7 Wr;have a0:x 10=_:=hd 10 Wr;exact zi
    ·have s:x 7=_:=hd 7 Wr;have d8:x 8=_:=hd 8 Wr;have ax:x 11=_:=hd 11 Wr;exact zi
    ·have s:x 7=_:=hd 7 Wr;have a4:x 12=_:=hd 12 Wr;exact zi
    ·have az:x 13=_:=hd 13 Wr;exact zi
    ·have j:x 14=_:=hd 14 Wr;exact zi
    ·have j:x 14=_:=hd 14 Wr;have al:x 15=_:=hd 15 Wr;have R:=f.cell c5 Wz;exact zi
    ·have j:x 14=_:=hd 14 Wr;exact zi
    ·have j:x 14=_:=hd 14 Wr;have ay:x 16=_:=hd 16 Wr;have au:x 17=_:=hd 17 Wr;exact zi
    ·have j:x 14=_:=hd 14 Wr;have ah:x 18=_:=hd 18 Wr;exact zi
    ·have j:x 14=_:=hd 14 Wr;have ab:x 19=_:=hd 19 Wr;have z0:=f.cell Gm.o Wz;exact zi
    ·have j:x 14=_:=hd 14 Wr;have h7:=HA.o.k0 f;refine bq (by simp only [Nat.reduceAdd,Xd];revert j;generalize x 14=vv;rintro rfl;rfl) (.tmp 5) Wk h7 Gh.o Wk ?_;exact zi
    ·have j:x 14=_:=hd 14 Wr;have X:x 21=_:=hd 21 Wr;have X:x 21=_:=hd 21 Wr;have j:x 14=_:=hd 14 Wr;have F:=CI.o _ f;go_wp2_with (go_at_call 51;refine F.mh ?_;rintro e w5 rfl D);exact⟨rfl,D.o⟩
    ·have j:x 14=_:=hd 14 Wr;have aj:x 20=_:=hd 20 Wr;have ad:x 22=_:=hd 22 Wr;exact zi
   ·intro x ap f av hd p;have j:x 14=_:=hd 14 Wo;have ao:x 23=_:=hd 23 Wo;have Gk:=qI f;clear hd p f;change wpList _ _ _ [_] _ _;go_wp2;go_ret;exact⟨by rw [E.o];rfl,U.o.then Gk.o⟩
  ·obtain⟨f1,f2⟩:=jv hid;rw [XT hid] at E;have Gx:=qI Z;clear hid Z;go_enter func17,ntmps17;go_upto_region 1 with fail;refine yZ Gg.o ?_;go_wp2
   refine yG (n:=61) 24 [fI (.agg #[.int .i64 kd,.int .i64 N,.string st,.slice Q P A,.slice p2 L r,.slice (some ⟨g,o,none⟩) m c]),
    fT,
    fF,
    fF,
    fI (.int .i64 i),
    fF,
    fF,
    fF,
    fI (.int .i64 i),
    fI (.pointer (some ⟨w.heap.size,5,none⟩)),
    fI (.slice (some ⟨g,o,none⟩) m c),
    fI (.int .i64 m),
    fF,
    fF,
    fF,
    fI (.pointer (some ⟨w.heap.size,5,none⟩)),
    fI (.slice (some ⟨g,o,none⟩) m c),
    fI (.int .i64 i),
    fI (.pointer (some ⟨g,o+i*2,none⟩)),
    fI (.pointer (some ⟨g,o+i*2,none⟩)),
    fI (.string rw.id),
    fI (.agg (yV k)),
    fI (.string kid),
    fF] Wr rfl Wr (fun x=>qB) ?_ ?_
   ·refine⟨?_,?_,?_,?_,?_,?_,?_,?_,?_,?_,?_,?_,?_,?_,?_,?_,?_,?_,?_,?_,?_,?_,?_,?_,trivial⟩ <;> intro x w2 f b hd;·have y0:=f.cell c0 Wz;obtain⟨y1,y2,y3,y4,R⟩:=VP f c1 c2 c3 c4 c5;exact zi
    ·have d0:x 0=_:=hd 0 Wr;have d0:x 0=_:=hd 0 Wr;have F:=CM.o _ f;go_wp2_with (go_at_call 21;refine F.mh ?_;rintro e w5 rfl D);exact⟨rfl,D.o⟩
    ·have A:x 1=_:=hd 1 Wr;exact zi
    ·have r:x 2=_:=hd 2 Wr;exact zi
    ·have J:x 3=_:=hd 3 Wr;exact zi
    ·have J:x 3=_:=hd 3 Wr;have d4:x 4=_:=hd 4 Wr;exact zi
    ·have J:x 3=_:=hd 3 Wr;have d5:x 5=_:=hd 5 Wr;exact zi
    ·have d6:x 6=_:=hd 6 Wr;exact zi
    ·have s:x 7=_:=hd 7 Wr;exact zi
    ·have s:x 7=_:=hd 7 Wr;exact zi
    ·have s:x 7=_:=hd 7 Wr;have d9:x 9=_:=hd 9 Wr;have R:=f.cell c5 Wz;exact zi
    ·have s:x 7=_:=hd 7 Wr;have a0:x 10=_:=hd 10 Wr;exact zi
    ·have s:x 7=_:=hd 7 Wr;have d8:x 8=_:=hd 8 Wr;have ax:x 11=_:=hd 11 Wr;exact zi
    ·have s:x 7=_:=hd 7 Wr;have a4:x 12=_:=hd 12 Wr;exact zi
    ·have az:x 13=_:=hd 13 Wr;exact zi
    ·have j:x 14=_:=hd 14 Wr;exact zi
    ·have j:x 14=_:=hd 14 Wr;have al:x 15=_:=hd 15 Wr;have R:=f.cell c5 Wz;exact zi
    ·have j:x 14=_:=hd 14 Wr;exact zi
    ·have j:x 14=_:=hd 14 Wr;have ay:x 16=_:=hd 16 Wr;have au:x 17=_:=hd 17 Wr;exact zi
    ·have j:x 14=_:=hd 14 Wr;have ah:x 18=_:=hd 18 Wr;exact zi
    ·have j:x 14=_:=hd 14 Wr;have ab:x 19=_:=hd 19 Wr;have z0:=f.cell Gm.o Wz;exact zi
    ·have j:x 14=_:=hd 14 Wr;have h7:=HA.o.k0 f;refine bq (by simp only [Nat.reduceAdd,Xd];revert j;generalize x 14=vv;rintro rfl;rfl) (.tmp 5) Wk h7 Gh.o Wk ?_;exact zi
    ·have j:x 14=_:=hd 14 Wr;have X:x 21=_:=hd 21 Wr;have X:x 21=_:=hd 21 Wr;have j:x 14=_:=hd 14 Wr;have F:=CI.o _ f;go_wp2_with (go_at_call 51;refine F.mh ?_;rintro e w5 rfl D);exact⟨rfl,D.o⟩
    ·have j:x 14=_:=hd 14 Wr;have aj:x 20=_:=hd 20 Wr;have ad:x 22=_:=hd 22 Wr;exact zi
   ·intro x ap f av hd p;have j:x 14=_:=hd 14 Wo;have ao:x 23=_:=hd 23 Wo;have Gk:=qI f;have r1:=f.cell Gs.o Wz;have R:=f.cell c5 Wz;have Gy:=qI (HA.o.k0 f);clear hd p f;change wpList _ _ _ [_] _ _;go_upto_region 4 with (go_at_call 58;refine (CU.o _).mono ?_;rintro e w3 ⟨⟨ua,uc,rfl,ai,-⟩,am⟩;have Gz:=qI ai;have Gp:Hid (zb [] G w3):=qI (Gk.o.then am);clear am ai);clear r1 R j ao;have Gv:=qI (HA.o.k0 Gp.o);have CD:=zcw k Gu.o Gh.o Gz.o (XC Gx.o);by_cases O:yl k=true∧bO k.bits.toNat k.height.toNat b=true
    ·have C:Hid (Calls prog 59 #[.agg (yV k),.slice ua b.length uc] w3 fun e u=>(∃ a1 c1 a2 c2 a3 c3,e = .returned (.tuple #[.agg #[.int .i64 (kH k.bits.toNat k.height.toNat b).leaf,.slice a1 k.bits.toNat c1,.slice a2 k.bits.toNat c2,.slice a3 k.height.toNat c3],.int .i64 0]) ∧
      Slc u 32 (.slice a1 k.bits.toNat c1) k.bits.toNat ((kH k.bits.toNat k.height.toNat b).one.rev.flatten.map bv)∧Slc u 32 (.slice a2 k.bits.toNat c2) k.bits.toNat ((kH k.bits.toNat k.height.toNat b).one.oth.flatten.map bv)∧Slc u 32 (.slice a3 k.height.toNat c3) k.height.toNat ((kH k.bits.toNat k.height.toNat b).way.flatten.map bv))∧zb [] w3 u):=qI (CD.mono (fun e u h=>⟨by have t:=h.1;unfold J6 at t;rw [XK O] at t;exact t,h.2⟩))
     have HF:=qI (sigOf_fine O.2);have Ja:=qI O.1;have Ge:Hid (res=verS k.root B (kH k.bits.toNat k.height.toNat b)):=qI (by rw [E.o];unfold goodB;simp only [VB];rw [O.1,O.2];rfl);have Gw:=qI (mayKey_nat O.1);clear CD O E;generalize kH k.bits.toNat k.height.toNat b=sg at C HF Ge;have Gl:=qI (And.intro Gw.o.1 Gw.o.2.1);generalize k.bits.toNat=nb at C HF Gl;generalize k.height.toNat=nh at C HF Gl;generalize ae:sg.leaf=lf at C;go_upto_region 5 with first
      | (refine yN Wk (.tmp 5) Wk Gv.o Gh.o Wk ?_)
      | (go_at_call 59;refine C.o.mono ?_;rintro e w5 ⟨⟨a5,W,a6,c6,a7,c7,rfl,ar,aq,aw⟩,K⟩;have Jb:=qI ar;have Jc:=qI aq;have Jd:=qI aw;have D:=qI (Gp.o.then K);clear K ar aq aw)
     obtain⟨Y,Gi⟩:=XE (w5.alloc (.cells #[.int .i64 lf,.slice a5 nb W,.slice a6 nb c6,.slice a7 nh c7] 87));have Gj:Hid (zb [] w5 Y):=qI (kA1 Gi.o);have HS:Hid (zb6 Y w5.heap.size lf (.slice a5 nb W) (.slice a6 nb c6) (.slice a7 nh c7)):=qI (by rw [Gi.o];exact zd rfl);rw [← Gi.o];have Gb:Hid (zb [] G Y):=qI (D.o.then Gj.o);have CV:Hid (∀ w7,zb [] Y w7→∀ q d,zm w7 (.slice q B.length d) B→Calls prog 60 #[.agg (yV k),.slice q B.length d,.agg #[.int .i64 lf,.slice a5 nb W,.slice a6 nb c6,.slice a7 nh c7]] w7 fun e u=>e = .returned (.bool (verS k.root B sg))∧zb [] w7 u):=qI (fun w7 y q d hb=>by
      rw [← ae];obtain⟨e1,e2,e3,e4,e5,e6,e7⟩:=HF.o;exact sigVerify_any k Gu.o Gh.o Ja.o hb Gt.o sg e1 Gl.o.1 Gl.o.2 e2 e3 e4 e5 e6 e7 ((Jb.o.k0 Gj.o).k0 y) ((Jc.o.k0 Gj.o).k0 y) ((Jd.o.k0 Gj.o).k0 y) (Gr.o.k0 (Gb.o.then y)))
     have aB:Hid (∀ w2,zb [] Y w2→Calls prog 20 #[.agg #[.int .i64 kd,.int .i64 N,.string st,.slice Q P A,.slice p2 L r,.slice (some ⟨g,o,none⟩) m c]] w2 fun e u=>(∃ q d,e = .returned (.slice q B.length d)∧zm u (.slice q B.length d) B)∧zb [] w2 u):=qI (fun w2 y=>CB.o w2 (Gb.o.then y));have Je:=qI (HA.o.k0 Gb.o);have Gc:=Gb.o.heap Gf.o Wz;clear c0 c1 c2 c3 c4 c5 ae af;obtain⟨b0,b1,b2,b3,b4,b5⟩:=yz Gc;have s0:=za (o:=0) HS.o rfl;have s1:=za (o:=1) HS.o rfl;have s2:=za (o:=2) HS.o rfl;have s3:=za (o:=3) HS.o rfl;have HV:=qI Ge.o;generalize verS k.root B sg=vr at CV HV;generalize w5.heap.size=q5 at s0 s1 s2 s3 ⊢;clear Gc;go_wp2
     refine yG (n:=61) 9 [fI (.int .i64 0),
      fT,
      fT,
      fI (.agg (yV k)),
      fI (.agg #[.int .i64 kd,.int .i64 N,.string st,.slice Q P A,.slice p2 L r,.slice (some ⟨g,o,none⟩) m c]),
      J1 B,
      fI (.agg #[.int .i64 lf,.slice a5 nb W,.slice a6 nb c6,.slice a7 nh c7]),
      fI (.bool vr),
      fI (.bool vr)] Wr rfl Wr (fun x=>qB) ?_ ?_
     ·refine⟨?_,?_,?_,?_,?_,?_,?_,?_,?_,trivial⟩ <;> intro x w2 f b hd;·exact zi
      ·have d0:x 0=_:=hd 0 Wr;exact zi
      ·have A:x 1=_:=hd 1 Wr;exact zi
      ·have r:x 2=_:=hd 2 Wr;have h7:=Je.o.k0 f;refine bq (by simp only [Nat.reduceAdd,Xd];revert r;generalize x 2=vv;rintro rfl;rfl) (.tmp 5) Wk h7 Gh.o Wk ?_;exact zi
      ·have r:x 2=_:=hd 2 Wr;obtain⟨y0,y1,y2,y3,y4,R⟩:=VO f b0 b1 b2 b3 b4 b5;exact zi
      ·have r:x 2=_:=hd 2 Wr;have d4:x 4=_:=hd 4 Wr;have r:x 2=_:=hd 2 Wr;have d4:x 4=_:=hd 4 Wr;have F:=aB.o _ f;go_wp2_with (go_at_call 20;refine F.mono ?_;rintro e w9 ⟨⟨q9,d9,rfl,H⟩,ak⟩;have Jf:=qI H;have Jg:=qI ak;clear H ak);exact⟨⟨q9,d9,rfl,Jf.o⟩,Jg.o⟩
      ·have r:x 2=_:=hd 2 Wr;obtain⟨y0,y1,y2,y3⟩:=VQ f s0 s1 s2 s3;exact zi
      ·have r:x 2=_:=hd 2 Wr;have J:x 3=_:=hd 3 Wr;have d6:x 6=_:=hd 6 Wr;have r:x 2=_:=hd 2 Wr;have J:x 3=_:=hd 3 Wr;obtain⟨q9,e9,d5,H⟩:=hd 5 Wr;have d6:x 6=_:=hd 6 Wr;have F:=CV.o _ f q9 e9 H;clear H;go_wp2_with (go_at_call 60;refine F.mh ?_;rintro e w5 rfl D);exact⟨rfl,D.o⟩
      ·have r:x 2=_:=hd 2 Wr;have s:x 7=_:=hd 7 Wr;exact zi
     ·intro x aC f a9 hd p;have d8:x 8=_:=hd 8 Wo;have Gq:=qI f;clear hd p f;change wpList _ _ _ [_] _ _;go_wp2;go_ret;exact⟨by rw [HV.o];exact congrArg Ending.returned d8,U.o.then (Gb.o.then Gq.o)⟩
    ·have C:Hid (Calls prog 59 #[.agg (yV k),.slice ua b.length uc] w3 fun e u=>(∃ z:Int,z≠0∧e = .returned (.tuple #[.agg #[.int .i64 0,.slice none 0 0,.slice none 0 0,.slice none 0 0],.int .i64 z]))∧zb [] w3 u):=qI (CD.mono (fun e u h=>⟨by have t:=h.1;unfold J6 at t;rw [XJ O] at t;obtain⟨z,h2,-,-,h3⟩:=t;exact⟨z,h2,h3⟩,h.2⟩));have Ge:Hid (res=false):=qI (by
      rw [E.o];unfold goodB;simp only [VB];cases t:yl k with
      | false=>rfl
      | true=>
       cases h2:bO k.bits.toNat k.height.toNat b with
       | false=>rfl
       | true=>exact absurd ⟨t,h2⟩ O)
     clear CD O E;go_upto_region 5 with first
      | (refine yN Wk (.tmp 5) Wk Gv.o Gh.o Wk ?_)
      | (go_at_call 59;refine C.o.mono ?_;rintro e w5 ⟨⟨z,hz,rfl⟩,K⟩;obtain⟨z1,z2⟩:=zq hz;have D:=qI (Gp.o.then K);clear K hz)
     obtain⟨Y,Gi⟩:=XE (w5.alloc (.cells #[.int .i64 0,.slice none 0 0,.slice none 0 0,.slice none 0 0] 87));have Gj:Hid (zb [] w5 Y):=qI (kA1 Gi.o);rw [← Gi.o];have Gb:Hid (zb [] G Y):=qI (D.o.then Gj.o);clear c0 c1 c2 c3 c4 c5 af;go_wp2
     refine yG (n:=61) 9 [fI (.int .i64 z),
      fF,
      fF,
      fU,
      fU,
      fU,
      fU,
      fU,
      fF] Wr rfl Wr (fun x=>qB) ?_ ?_
     ·refine⟨?_,?_,?_,?_,?_,?_,?_,?_,?_,trivial⟩ <;> intro x w2 f b hd;·exact zi
      ·have d0:x 0=_:=hd 0 Wr;exact zi
      ·have A:x 1=_:=hd 1 Wr;exact zi
      ·have r:x 2=_:=hd 2 Wr;exact zi
      ·have r:x 2=_:=hd 2 Wr;exact zi
      ·have r:x 2=_:=hd 2 Wr;have d4:x 4=_:=hd 4 Wr;exact zi
      ·have r:x 2=_:=hd 2 Wr;exact zi
      ·have r:x 2=_:=hd 2 Wr;have J:x 3=_:=hd 3 Wr;have d5:x 5=_:=hd 5 Wr;have d6:x 6=_:=hd 6 Wr;exact zi
      ·have r:x 2=_:=hd 2 Wr;have s:x 7=_:=hd 7 Wr;exact zi
     ·intro x aC f a9 hd p;have d8:x 8=_:=hd 8 Wo;have Gq:=qI f;clear hd p f;change wpList _ _ _ [_] _ _;go_wp2;go_ret;exact⟨by rw [Ge.o];exact congrArg Ending.returned d8,U.o.then (Gb.o.then Gq.o)⟩
end Go.Proofs.YtjccecajigmfkaaGreatDoor

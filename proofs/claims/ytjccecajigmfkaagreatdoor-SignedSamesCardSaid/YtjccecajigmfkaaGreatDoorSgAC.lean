/- Parts of one proof, merged: XCZ. -/
import Derived.Test.YtjccecajigmfkaaGreatDoorSgZ
import Derived.Test.YtjccecajigmfkaaGreatDoorSgAB
set_option linter.all false
set_option maxHeartbeats 12800000
set_option maxRecDepth 100000
namespace Go.Proofs.YtjccecajigmfkaaGreatDoor
open Go.Proofs.Tryz
open Go.RowKit
attribute [local go_sem] Oper.semAt_some
variable {b:List UInt8}
def goodB (k:yX)(m b:List UInt8):Bool:=yr k&&(bE k.bits.toNat k.height.toNat b&&verS k.root m (ki k.bits.toNat k.height.toNat b))
def Q5 (n:Nat)(v:V n)(l:List yh)(r:yh)(k:yX):Bool:=yf n v l&&(decide (r.id=qb k)&&goodB k (kE n v l) ((xo r.sig).getD []))
def JM (l:List UInt8):kM (zb []):=⟨fun v _ w=>∃ q d,v = .slice q l.length d∧zp w (.slice q l.length d) l,fun _ _ _ _ ⟨q,d,h1,h2⟩ k=>⟨q,d,h1,h2.k0 k⟩⟩
theorem unhex_len {s:ByteArray}(h:xo s=some b):b.length≤s.size/2:=by
 unfold xo at h;split at h
 ·cases h
  rw [ZE];exact XA
 ·cases h
theorem encV_len (n:Nat)(v:V n):(xR n v).1.length≤262144:=by
 unfold xR;split;·simp
 ·split;·simp
  ·simp only;omega
theorem bodyB_len (n:Nat)(v:V n)(l:List yh):(kE n v l).length≤1048576:=by
 unfold kE;split;·have:=encV_len n v;omega
 ·simp
theorem mayKey_nat {k:yX}(h:yr k=true):k.bits=(k.bits.toNat:Nat)∧k.height=(k.height.toNat:Nat)∧k.bits.toNat≤256∧k.height.toNat≤6:=by
 unfold yr xu at h;simp only [Bool.and_eq_true,decide_eq_true_eq] at h;omega
theorem sigOf_fine {a d:Nat}(h:bE a d b=true):(ki a d b).leaf≤1073741824∧(ki a d b).one.rev.length=a∧(ki a d b).one.oth.length=a∧(ki a d b).way.length=d∧yT (ki a d b).one.rev∧yT (ki a d b).one.oth∧yT (ki a d b).way:=by
 unfold bE at h;simp only [Bool.and_eq_true,decide_eq_true_eq] at h;have e:((b.drop 4).take (64*a)).length=64*a:=by simp;omega
 have h2:((b.drop (4+64*a)).take (32*d)).length=32*d:=by simp;omega
 exact⟨h.2,(zbL _ _).1,(zbL _ _).2,zaZ _ _ _,(decO_32 e).1,(decO_32 e).2,cutL_32 h2⟩
theorem holds_any {n:Nat}{S:Nat→Prop}{w:World}{cs:List Value}{v:V n}{a:Option Addr}{c:Nat}{l:List yh}(h:Env n S w cs v a c l)(ht:xH w)(aj:qK w)(k:yX)(ab:Z1 k.bits)(hr:k.root.length=32)(i:Nat)(hi:i<l.length) : zJ w 17 #[.agg (YJ cs a l.length c).toArray,.int .i64 i,.agg (yU k)] (.bool (Q5 n v l l[i] k)):=by
 obtain⟨kd,N,st,P,Q,D,p2,O,r,rfl⟩:=h.rep.conv;obtain⟨g,o,rfl,-,-,I⟩:=h.rows.cells Ws;obtain⟨L,Gg⟩:=XE ((w.alloc (.cells #[.int .i64 kd,.int .i64 N,.string st,.slice P Q D,.slice p2 O r,.slice (some ⟨g,o,none⟩) l.length c] 28)).alloc (.cells (yU k) 51));have X:Hid (zb [] w L):=qI (kA2 Gg.o);have Gf:Hid (L.heap[w.heap.size]? = some (.cells #[.int .i64 kd,.int .i64 N,.string st,.slice P Q D,.slice p2 O r,.slice (some ⟨g,o,none⟩) l.length c] 28 (0,0))):=qI (by rw [Gg.o];exact ((zb.refl [] _).alloc _).heap (ze rfl) Wz);have HA:Hid (yR L (w.heap.size+1) k):=qI (by rw [Gg.o];exact ze Wz);have HE:=qI (h.k0 X.o);have HT:=qI (ht.k0 X.o);have Gr:=qI (aj.k0 X.o);have CM:Hid (yL L 21 #[.agg #[.int .i64 kd,.int .i64 N,.string st,.slice P Q D,.slice p2 O r,.slice (some ⟨g,o,none⟩) l.length c]] (.bool (yf n v l))):=qI (fun w2 A=>by have t:=qF (HE.o.k0 A) (HT.o.k0 A);exact t);have CB:Hid (∀ w2,zb [] L w2→Calls prog 20 #[.agg #[.int .i64 kd,.int .i64 N,.string st,.slice P Q D,.slice p2 O r,.slice (some ⟨g,o,none⟩) l.length c]] w2 fun e u=>(∃ q d,e = .returned (.slice q (kE n v l).length d)∧zp u (.slice q (kE n v l).length d) (kE n v l))∧zb [] w2 u):=qI (fun w2 A=>by have t:=zaU (HE.o.k0 A) (HT.o.k0 A);exact t);have CI:Hid (yL L 51 #[.agg (yU k)] (.string (qb k))):=qI (fun w2 A=>keyId_any k ab hr w2 (HT.o.k0 A) (Gr.o.k0 A));have Gm:Hid (L.cell? ⟨g,o+i*2,none⟩=some (.string l[i].id)):=qI (X.o.cell (I i hi 0 _ rfl) Wz);have Gs:Hid (L.cell? ⟨g,o+i*2+1,none⟩=some (.string l[i].sig)):=qI (X.o.cell (I i hi 1 _ rfl) Wz);have CU:=qI (fun w2=>JF l[i].sig (h.texts l[i] (List.getElem_mem _)).2 w2);have Gn:Hid (yf n v l=true→∃ b,xo l[i].sig=some b∧b.length≤524288):=qI (fun hm=>by
  unfold yf at hm;simp only [Bool.and_eq_true,List.all_eq_true] at hm;have t:=hm.2.2.2.2 l[i] (List.getElem_mem _);unfold xn at t;simp only [Bool.and_eq_true,decide_eq_true_eq] at t;obtain⟨b,hb⟩:=Option.isSome_iff_exists.1 t.2.1;exact⟨b,hb,by have:=unhex_len hb;have:=t.2.2;omega⟩)
 have E:Hid (Q5 n v l l[i] k=(yf n v l&&(decide (l[i].id=qb k)&&goodB k (kE n v l) ((xo l[i].sig).getD [])))):=qI rfl;have Gt:=qI (bodyB_len n v l);have aC:(l.length:Int)≤1000000:=XC h.few;have aD:(i:Int)<l.length:=Ws;have Gh:=qI hr;have Gu:=qI ab;clear h ht aj hr ab I HE;generalize Q5 n v l l[i] k=res at E ⊢;generalize ao:qb k=kid at CI E;clear ao;generalize yf n v l=M at CM Gn E;generalize kE n v l=B at CB E Gt;generalize l[i]=rw at Gm Gs CU Gn E;generalize l.length=m at Gg Gf CM CB aC aD ⊢;clear hi;have aq:decide (m≤i)=false:=decide_eq_false Ws;obtain⟨c0,c1,c2,c3,c4,c5⟩:=yS Gf.o;show Calls _ _ #[.agg #[.int .i64 kd,.int .i64 N,.string st,.slice P Q D,.slice p2 O r,.slice (some ⟨g,o,none⟩) m c],.int .i64 i,.agg (yU k)] _ _;cases M with
 | false=>
  go_enter func17,ntmps17;go_upto_region 1 with fail;refine xg Gg.o ?_;go_wp2
  refine yz (n:=61) 24 [fI (.agg #[.int .i64 kd,.int .i64 N,.string st,.slice P Q D,.slice p2 O r,.slice (some ⟨g,o,none⟩) m c]),
   fF,
   fT,
   fT,
   fU,
   fU,
   fT,
   fT,
   fU,
   fU,
   fU,
   fU,
   fU,
   fT,
   fT,
   fU,
   fU,
   fU,
   fU,
   fU,
   fU,
   fU,
   fU,
   fU] Wr rfl Wr (fun x=>qm) ?_ ?_
  ·refine⟨?_,?_,?_,?_,?_,?_,?_,?_,?_,?_,?_,?_,?_,?_,?_,?_,?_,?_,?_,?_,?_,?_,?_,?_,trivial⟩ <;> intro x w2 f b hd;·have y0:=f.cell c0 Wz;have y1:=f.cell c1 Wz;have y2:=f.cell c2 Wz;have y3:=f.cell c3 Wz;have y4:=f.cell c4 Wz;have W:=f.cell c5 Wz;exact zi
   ·have d0:x 0=_:=hd 0 Wr;have d0:x 0=_:=hd 0 Wr;have G:=CM.o _ f;go_wp2_with (go_at_call 21;refine G.mh ?_;rintro e F rfl y);exact⟨rfl,y.o⟩
   ·have D:x 1=_:=hd 1 Wr;exact zi
   ·have r:x 2=_:=hd 2 Wr;exact zi
   ·have J:x 3=_:=hd 3 Wr;exact zi
   ·have J:x 3=_:=hd 3 Wr;have d4:x 4=_:=hd 4 Wr;exact zi
   ·have J:x 3=_:=hd 3 Wr;have d5:x 5=_:=hd 5 Wr;exact zi
   ·have d6:x 6=_:=hd 6 Wr;exact zi
   ·have s:x 7=_:=hd 7 Wr;exact zi
   ·have s:x 7=_:=hd 7 Wr;exact zi
   ·have s:x 7=_:=hd 7 Wr;have d9:x 9=_:=hd 9 Wr;exact zi
   ·have s:x 7=_:=hd 7 Wr;have a8:x 10=_:=hd 10 Wr;exact zi
   ·have s:x 7=_:=hd 7 Wr;have d8:x 8=_:=hd 8 Wr;have az:x 11=_:=hd 11 Wr;exact zi
   ·have s:x 7=_:=hd 7 Wr;have ai:x 12=_:=hd 12 Wr;exact zi
   ·have ax:x 13=_:=hd 13 Wr;exact zi
   ·have j:x 14=_:=hd 14 Wr;exact zi
   ·have j:x 14=_:=hd 14 Wr;have ag:x 15=_:=hd 15 Wr;exact zi
   ·have j:x 14=_:=hd 14 Wr;exact zi
   ·have j:x 14=_:=hd 14 Wr;have ar:x 16=_:=hd 16 Wr;have ay:x 17=_:=hd 17 Wr;exact zi
   ·have j:x 14=_:=hd 14 Wr;have au:x 18=_:=hd 18 Wr;exact zi
   ·have j:x 14=_:=hd 14 Wr;have af:x 19=_:=hd 19 Wr;exact zi
   ·have j:x 14=_:=hd 14 Wr;exact zi
   ·have j:x 14=_:=hd 14 Wr;have Y:x 21=_:=hd 21 Wr;exact zi
   ·have j:x 14=_:=hd 14 Wr;have ak:x 20=_:=hd 20 Wr;have ad:x 22=_:=hd 22 Wr;exact zi
  ·intro x av f al hd p;have j:x 14=_:=hd 14 Wo;have Gk:=qI f;clear hd p f;change wpList _ _ _ [_] _ _;go_wp2;go_ret;exact⟨by rw [E.o];rfl,X.o.then Gk.o⟩
 | true=>
  obtain⟨b,hb,aa⟩:=Gn.o rfl;rw [hb] at E CU;clear hb;by_cases hid:rw.id=kid;rotate_left
  ·obtain⟨f1,f2⟩:=jS hid;rw [decide_eq_false hid] at E;clear hid aa;go_enter func17,ntmps17;go_upto_region 1 with fail;refine xg Gg.o ?_;go_wp2
   refine yz (n:=61) 24 [fI (.agg #[.int .i64 kd,.int .i64 N,.string st,.slice P Q D,.slice p2 O r,.slice (some ⟨g,o,none⟩) m c]),
    fT,
    fF,
    fF,
    fI (.int .i64 i),
    fF,
    fF,
    fF,
    fI (.int .i64 i),
    fI (.pointer (some ⟨w.heap.size,5,none⟩)),
    fI (.slice (some ⟨g,o,none⟩) m c),
    fI (.int .i64 m),
    fF,
    fF,
    fF,
    fI (.pointer (some ⟨w.heap.size,5,none⟩)),
    fI (.slice (some ⟨g,o,none⟩) m c),
    fI (.int .i64 i),
    fI (.pointer (some ⟨g,o+i*2,none⟩)),
    fI (.pointer (some ⟨g,o+i*2,none⟩)),
    fI (.string rw.id),
    fI (.agg (yU k)),
    fI (.string kid),
    fT] Wr rfl Wr (fun x=>qm) ?_ ?_
   ·refine⟨?_,?_,?_,?_,?_,?_,?_,?_,?_,?_,?_,?_,?_,?_,?_,?_,?_,?_,?_,?_,?_,?_,?_,?_,trivial⟩ <;> intro x w2 f b hd;·have y0:=f.cell c0 Wz;have y1:=f.cell c1 Wz;have y2:=f.cell c2 Wz;have y3:=f.cell c3 Wz;have y4:=f.cell c4 Wz;have W:=f.cell c5 Wz;exact zi
    ·have d0:x 0=_:=hd 0 Wr;have d0:x 0=_:=hd 0 Wr;have G:=CM.o _ f;go_wp2_with (go_at_call 21;refine G.mh ?_;rintro e F rfl y);exact⟨rfl,y.o⟩
    ·have D:x 1=_:=hd 1 Wr;exact zi
    ·have r:x 2=_:=hd 2 Wr;exact zi
    ·have J:x 3=_:=hd 3 Wr;exact zi
    ·have J:x 3=_:=hd 3 Wr;have d4:x 4=_:=hd 4 Wr;exact zi
    ·have J:x 3=_:=hd 3 Wr;have d5:x 5=_:=hd 5 Wr;exact zi
    ·have d6:x 6=_:=hd 6 Wr;exact zi
    ·have s:x 7=_:=hd 7 Wr;exact zi
    ·have s:x 7=_:=hd 7 Wr;exact zi
    ·have s:x 7=_:=hd 7 Wr;have d9:x 9=_:=hd 9 Wr;have W:=f.cell c5 Wz;exact zi
    ·have s:x 7=_:=hd 7 Wr;have a8:x 10=_:=hd 10 Wr;exact zi
    ·have s:x 7=_:=hd 7 Wr;have d8:x 8=_:=hd 8 Wr;have az:x 11=_:=hd 11 Wr;exact zi
    ·have s:x 7=_:=hd 7 Wr;have ai:x 12=_:=hd 12 Wr;exact zi
    ·have ax:x 13=_:=hd 13 Wr;exact zi
    ·have j:x 14=_:=hd 14 Wr;exact zi
    ·have j:x 14=_:=hd 14 Wr;have ag:x 15=_:=hd 15 Wr;have W:=f.cell c5 Wz;exact zi
    ·have j:x 14=_:=hd 14 Wr;exact zi
    ·have j:x 14=_:=hd 14 Wr;have ar:x 16=_:=hd 16 Wr;have ay:x 17=_:=hd 17 Wr;exact zi
    ·have j:x 14=_:=hd 14 Wr;have au:x 18=_:=hd 18 Wr;exact zi
    ·have j:x 14=_:=hd 14 Wr;have af:x 19=_:=hd 19 Wr;have z0:=f.cell Gm.o Wz;exact zi
    ·have j:x 14=_:=hd 14 Wr;have h7:=HA.o.k0 f;refine vU (by simp only [Nat.reduceAdd,Nat.zero_add];revert j;generalize x 14=vv;rintro rfl;rfl) (.tmp 5) Wk h7 Gh.o Wk ?_;exact zi
    ·have j:x 14=_:=hd 14 Wr;have Y:x 21=_:=hd 21 Wr;have Y:x 21=_:=hd 21 Wr;have j:x 14=_:=hd 14 Wr;have G:=CI.o _ f;go_wp2_with (go_at_call 51;refine G.mh ?_;rintro e F rfl y);exact⟨rfl,y.o⟩
    ·have j:x 14=_:=hd 14 Wr;have ak:x 20=_:=hd 20 Wr;have ad:x 22=_:=hd 22 Wr;exact zi
   ·intro x av f al hd p;have j:x 14=_:=hd 14 Wo;have aw:x 23=_:=hd 23 Wo;have Gk:=qI f;clear hd p f;change wpList _ _ _ [_] _ _;go_wp2;go_ret;exact⟨by rw [E.o];rfl,X.o.then Gk.o⟩
  ·obtain⟨f1,f2⟩:=vu hid;rw [decide_eq_true hid] at E;have Gx:=qI aa;clear hid aa;go_enter func17,ntmps17;go_upto_region 1 with fail;refine xg Gg.o ?_;go_wp2
   refine yz (n:=61) 24 [fI (.agg #[.int .i64 kd,.int .i64 N,.string st,.slice P Q D,.slice p2 O r,.slice (some ⟨g,o,none⟩) m c]),
    fT,
    fF,
    fF,
    fI (.int .i64 i),
    fF,
    fF,
    fF,
    fI (.int .i64 i),
    fI (.pointer (some ⟨w.heap.size,5,none⟩)),
    fI (.slice (some ⟨g,o,none⟩) m c),
    fI (.int .i64 m),
    fF,
    fF,
    fF,
    fI (.pointer (some ⟨w.heap.size,5,none⟩)),
    fI (.slice (some ⟨g,o,none⟩) m c),
    fI (.int .i64 i),
    fI (.pointer (some ⟨g,o+i*2,none⟩)),
    fI (.pointer (some ⟨g,o+i*2,none⟩)),
    fI (.string rw.id),
    fI (.agg (yU k)),
    fI (.string kid),
    fF] Wr rfl Wr (fun x=>qm) ?_ ?_
   ·refine⟨?_,?_,?_,?_,?_,?_,?_,?_,?_,?_,?_,?_,?_,?_,?_,?_,?_,?_,?_,?_,?_,?_,?_,?_,trivial⟩ <;> intro x w2 f b hd;·have y0:=f.cell c0 Wz;have y1:=f.cell c1 Wz;have y2:=f.cell c2 Wz;have y3:=f.cell c3 Wz;have y4:=f.cell c4 Wz;have W:=f.cell c5 Wz;exact zi
    ·have d0:x 0=_:=hd 0 Wr;have d0:x 0=_:=hd 0 Wr;have G:=CM.o _ f;go_wp2_with (go_at_call 21;refine G.mh ?_;rintro e F rfl y);exact⟨rfl,y.o⟩
    ·have D:x 1=_:=hd 1 Wr;exact zi
    ·have r:x 2=_:=hd 2 Wr;exact zi
    ·have J:x 3=_:=hd 3 Wr;exact zi
    ·have J:x 3=_:=hd 3 Wr;have d4:x 4=_:=hd 4 Wr;exact zi
    ·have J:x 3=_:=hd 3 Wr;have d5:x 5=_:=hd 5 Wr;exact zi
    ·have d6:x 6=_:=hd 6 Wr;exact zi
    ·have s:x 7=_:=hd 7 Wr;exact zi
    ·have s:x 7=_:=hd 7 Wr;exact zi
    ·have s:x 7=_:=hd 7 Wr;have d9:x 9=_:=hd 9 Wr;have W:=f.cell c5 Wz;exact zi
    ·have s:x 7=_:=hd 7 Wr;have a8:x 10=_:=hd 10 Wr;exact zi
    ·have s:x 7=_:=hd 7 Wr;have d8:x 8=_:=hd 8 Wr;have az:x 11=_:=hd 11 Wr;exact zi
    ·have s:x 7=_:=hd 7 Wr;have ai:x 12=_:=hd 12 Wr;exact zi
    ·have ax:x 13=_:=hd 13 Wr;exact zi
    ·have j:x 14=_:=hd 14 Wr;exact zi
    ·have j:x 14=_:=hd 14 Wr;have ag:x 15=_:=hd 15 Wr;have W:=f.cell c5 Wz;exact zi
    ·have j:x 14=_:=hd 14 Wr;exact zi
    ·have j:x 14=_:=hd 14 Wr;have ar:x 16=_:=hd 16 Wr;have ay:x 17=_:=hd 17 Wr;exact zi
    ·have j:x 14=_:=hd 14 Wr;have au:x 18=_:=hd 18 Wr;exact zi
    ·have j:x 14=_:=hd 14 Wr;have af:x 19=_:=hd 19 Wr;have z0:=f.cell Gm.o Wz;exact zi
    ·have j:x 14=_:=hd 14 Wr;have h7:=HA.o.k0 f;refine vU (by simp only [Nat.reduceAdd,Nat.zero_add];revert j;generalize x 14=vv;rintro rfl;rfl) (.tmp 5) Wk h7 Gh.o Wk ?_;exact zi
    ·have j:x 14=_:=hd 14 Wr;have Y:x 21=_:=hd 21 Wr;have Y:x 21=_:=hd 21 Wr;have j:x 14=_:=hd 14 Wr;have G:=CI.o _ f;go_wp2_with (go_at_call 51;refine G.mh ?_;rintro e F rfl y);exact⟨rfl,y.o⟩
    ·have j:x 14=_:=hd 14 Wr;have ak:x 20=_:=hd 20 Wr;have ad:x 22=_:=hd 22 Wr;exact zi
   ·intro x av f al hd p;have j:x 14=_:=hd 14 Wo;have aw:x 23=_:=hd 23 Wo;have Gk:=qI f;have r1:=f.cell Gs.o Wz;have W:=f.cell c5 Wz;have Gy:=qI (HA.o.k0 f);clear hd p f;change wpList _ _ _ [_] _ _;go_upto_region 4 with (go_at_call 58;refine (CU.o _).mono ?_;rintro e w3 ⟨⟨ua,uc,rfl,ae,-⟩,a0⟩;have Gz:=qI ae;have Gp:Hid (zb [] L w3):=qI (Gk.o.then a0);clear a0 ae);clear r1 W j aw;have Gv:=qI (HA.o.k0 Gp.o);have CD:=sigDecode_any k Gu.o Gh.o Gz.o (XC Gx.o);by_cases R:yr k=true∧bE k.bits.toNat k.height.toNat b=true
    ·have C:Hid (Calls prog 59 #[.agg (yU k),.slice ua b.length uc] w3 fun e u=>(∃ a1 c1 a2 c2 a3 c3,e = .returned (.tuple #[.agg #[.int .i64 (ki k.bits.toNat k.height.toNat b).leaf,.slice a1 k.bits.toNat c1,.slice a2 k.bits.toNat c2,.slice a3 k.height.toNat c3],.int .i64 0]) ∧
      Slc u 32 (.slice a1 k.bits.toNat c1) k.bits.toNat ((ki k.bits.toNat k.height.toNat b).one.rev.flatten.map bv)∧Slc u 32 (.slice a2 k.bits.toNat c2) k.bits.toNat ((ki k.bits.toNat k.height.toNat b).one.oth.flatten.map bv)∧Slc u 32 (.slice a3 k.height.toNat c3) k.height.toNat ((ki k.bits.toNat k.height.toNat b).way.flatten.map bv))∧zb [] w3 u):=qI (CD.mono (fun e u h=>⟨by have t:=h.1;unfold K7 at t;rw [if_pos R] at t;exact t,h.2⟩))
     have HF:=qI (sigOf_fine R.2);have Ja:=qI R.1;have Ge:Hid (res=verS k.root B (ki k.bits.toNat k.height.toNat b)):=qI (by rw [E.o];unfold goodB;simp only [Option.getD_some];rw [R.1,R.2];rfl);have Gw:=qI (mayKey_nat R.1);clear CD R E;generalize ki k.bits.toNat k.height.toNat b=sg at C HF Ge;have Gl:=qI (And.intro Gw.o.1 Gw.o.2.1);generalize k.bits.toNat=nb at C HF Gl;generalize k.height.toNat=nh at C HF Gl;generalize an:sg.leaf=lf at C;go_upto_region 5 with first
      | (refine yM Wk (.tmp 5) Wk Gv.o Gh.o Wk ?_)
      | (go_at_call 59;refine C.o.mono ?_;rintro e F ⟨⟨a5,U,a6,c6,a7,c7,rfl,a4,ap,ah⟩,H⟩;have Jb:=qI a4;have Jc:=qI ap;have Jd:=qI ah;have y:=qI (Gp.o.then H);clear H a4 ap ah)
     obtain⟨Z,Gi⟩:=XE (F.alloc (.cells #[.int .i64 lf,.slice a5 nb U,.slice a6 nb c6,.slice a7 nh c7] 87));have Gj:Hid (zb [] F Z):=qI (kA1 Gi.o);have HS:Hid (zbr Z F.heap.size lf (.slice a5 nb U) (.slice a6 nb c6) (.slice a7 nh c7)):=qI (by rw [Gi.o];exact ze rfl);rw [← Gi.o];have Gb:Hid (zb [] L Z):=qI (y.o.then Gj.o);have CV:Hid (∀ w7,zb [] Z w7→∀ q d,zp w7 (.slice q B.length d) B→Calls prog 60 #[.agg (yU k),.slice q B.length d,.agg #[.int .i64 lf,.slice a5 nb U,.slice a6 nb c6,.slice a7 nh c7]] w7 fun e u=>e = .returned (.bool (verS k.root B sg))∧zb [] w7 u):=qI (fun w7 A q d hb=>by
      rw [← an];obtain⟨e1,e2,e3,e4,e5,e6,e7⟩:=HF.o;exact sigVerify_any k Gu.o Gh.o Ja.o hb Gt.o sg e1 Gl.o.1 Gl.o.2 e2 e3 e4 e5 e6 e7 ((Jb.o.k0 Gj.o).k0 A) ((Jc.o.k0 Gj.o).k0 A) ((Jd.o.k0 Gj.o).k0 A) (Gr.o.k0 (Gb.o.then A)))
     have a9:Hid (∀ w2,zb [] Z w2→Calls prog 20 #[.agg #[.int .i64 kd,.int .i64 N,.string st,.slice P Q D,.slice p2 O r,.slice (some ⟨g,o,none⟩) m c]] w2 fun e u=>(∃ q d,e = .returned (.slice q B.length d)∧zp u (.slice q B.length d) B)∧zb [] w2 u):=qI (fun w2 A=>CB.o w2 (Gb.o.then A));have Je:=qI (HA.o.k0 Gb.o);have Gc:=Gb.o.heap Gf.o Wz;clear c0 c1 c2 c3 c4 c5 an aq;obtain⟨b0,b1,b2,b3,b4,b5⟩:=yS Gc;have s0:=za (o:=0) HS.o rfl;have s1:=za (o:=1) HS.o rfl;have s2:=za (o:=2) HS.o rfl;have s3:=za (o:=3) HS.o rfl;have HV:=qI Ge.o;generalize verS k.root B sg=vr at CV HV;generalize F.heap.size=q5 at s0 s1 s2 s3 ⊢;clear Gc;go_wp2
     refine yz (n:=61) 9 [fI (.int .i64 0),
      fT,
      fT,
      fI (.agg (yU k)),
      fI (.agg #[.int .i64 kd,.int .i64 N,.string st,.slice P Q D,.slice p2 O r,.slice (some ⟨g,o,none⟩) m c]),
      JM B,
      fI (.agg #[.int .i64 lf,.slice a5 nb U,.slice a6 nb c6,.slice a7 nh c7]),
      fI (.bool vr),
      fI (.bool vr)] Wr rfl Wr (fun x=>qm) ?_ ?_
     ·refine⟨?_,?_,?_,?_,?_,?_,?_,?_,?_,trivial⟩ <;> intro x w2 f b hd;·exact zi
      ·have d0:x 0=_:=hd 0 Wr;exact zi
      ·have D:x 1=_:=hd 1 Wr;exact zi
      ·have r:x 2=_:=hd 2 Wr;have h7:=Je.o.k0 f;refine vU (by simp only [Nat.reduceAdd,Nat.zero_add];revert r;generalize x 2=vv;rintro rfl;rfl) (.tmp 5) Wk h7 Gh.o Wk ?_;exact zi
      ·have r:x 2=_:=hd 2 Wr;have y0:=f.cell b0 Wz;have y1:=f.cell b1 Wz;have y2:=f.cell b2 Wz;have y3:=f.cell b3 Wz;have y4:=f.cell b4 Wz;have W:=f.cell b5 Wz;exact zi
      ·have r:x 2=_:=hd 2 Wr;have d4:x 4=_:=hd 4 Wr;have r:x 2=_:=hd 2 Wr;have d4:x 4=_:=hd 4 Wr;have G:=a9.o _ f;go_wp2_with (go_at_call 20;refine G.mono ?_;rintro e w9 ⟨⟨q9,d9,rfl,K⟩,am⟩;have Jf:=qI K;have Jg:=qI am;clear K am);exact⟨⟨q9,d9,rfl,Jf.o⟩,Jg.o⟩
      ·have r:x 2=_:=hd 2 Wr;have y0:=f.cell s0 Wz;have y1:=f.cell s1 Wz;have y2:=f.cell s2 Wz;have y3:=f.cell s3 Wz;exact zi
      ·have r:x 2=_:=hd 2 Wr;have J:x 3=_:=hd 3 Wr;have d6:x 6=_:=hd 6 Wr;have r:x 2=_:=hd 2 Wr;have J:x 3=_:=hd 3 Wr;obtain⟨q9,e9,d5,K⟩:=hd 5 Wr;have d6:x 6=_:=hd 6 Wr;have G:=CV.o _ f q9 e9 K;clear K;go_wp2_with (go_at_call 60;refine G.mh ?_;rintro e F rfl y);exact⟨rfl,y.o⟩
      ·have r:x 2=_:=hd 2 Wr;have s:x 7=_:=hd 7 Wr;exact zi
     ·intro x aB f aA hd p;have d8:x 8=_:=hd 8 Wo;have Gq:=qI f;clear hd p f;change wpList _ _ _ [_] _ _;go_wp2;go_ret;exact⟨by rw [HV.o];exact congrArg Ending.returned d8,X.o.then (Gb.o.then Gq.o)⟩
    ·have C:Hid (Calls prog 59 #[.agg (yU k),.slice ua b.length uc] w3 fun e u=>(∃ z:Int,z≠0∧e = .returned (.tuple #[.agg #[.int .i64 0,.slice none 0 0,.slice none 0 0,.slice none 0 0],.int .i64 z]))∧zb [] w3 u):=qI (CD.mono (fun e u h=>⟨by have t:=h.1;unfold K7 at t;rw [if_neg R] at t;obtain⟨z,h2,-,-,h3⟩:=t;exact⟨z,h2,h3⟩,h.2⟩));have Ge:Hid (res=false):=qI (by
      rw [E.o];unfold goodB;simp only [Option.getD_some];cases t:yr k with
      | false=>rfl
      | true=>
       cases h2:bE k.bits.toNat k.height.toNat b with
       | false=>rfl
       | true=>exact absurd ⟨t,h2⟩ R)
     clear CD R E;go_upto_region 5 with first
      | (refine yM Wk (.tmp 5) Wk Gv.o Gh.o Wk ?_)
      | (go_at_call 59;refine C.o.mono ?_;rintro e F ⟨⟨z,hz,rfl⟩,H⟩;obtain⟨z1,z2⟩:=zR hz;have y:=qI (Gp.o.then H);clear H hz)
     obtain⟨Z,Gi⟩:=XE (F.alloc (.cells #[.int .i64 0,.slice none 0 0,.slice none 0 0,.slice none 0 0] 87));have Gj:Hid (zb [] F Z):=qI (kA1 Gi.o);rw [← Gi.o];have Gb:Hid (zb [] L Z):=qI (y.o.then Gj.o);clear c0 c1 c2 c3 c4 c5 aq;go_wp2
     refine yz (n:=61) 9 [fI (.int .i64 z),
      fF,
      fF,
      fU,
      fU,
      fU,
      fU,
      fU,
      fF] Wr rfl Wr (fun x=>qm) ?_ ?_
     ·refine⟨?_,?_,?_,?_,?_,?_,?_,?_,?_,trivial⟩ <;> intro x w2 f b hd;·exact zi
      ·have d0:x 0=_:=hd 0 Wr;exact zi
      ·have D:x 1=_:=hd 1 Wr;exact zi
      ·have r:x 2=_:=hd 2 Wr;exact zi
      ·have r:x 2=_:=hd 2 Wr;exact zi
      ·have r:x 2=_:=hd 2 Wr;have d4:x 4=_:=hd 4 Wr;exact zi
      ·have r:x 2=_:=hd 2 Wr;exact zi
      ·have r:x 2=_:=hd 2 Wr;have J:x 3=_:=hd 3 Wr;have d5:x 5=_:=hd 5 Wr;have d6:x 6=_:=hd 6 Wr;exact zi
      ·have r:x 2=_:=hd 2 Wr;have s:x 7=_:=hd 7 Wr;exact zi
     ·intro x aB f aA hd p;have d8:x 8=_:=hd 8 Wo;have Gq:=qI f;clear hd p f;change wpList _ _ _ [_] _ _;go_wp2;go_ret;exact⟨by rw [Ge.o];exact congrArg Ending.returned d8,X.o.then (Gb.o.then Gq.o)⟩
end Go.Proofs.YtjccecajigmfkaaGreatDoor

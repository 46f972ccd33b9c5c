/- Parts of one proof, merged: XFK. -/
import Derived.Test.YtibnfbglanpoiaaGreatDoorQeAT
import Derived.Test.YtibnfbglanpoiaaGreatDoorQeAV
import Derived.Test.YtibnfbglanpoiaaGreatDoorQeAR
import Derived.Test.YtibnfbglanpoiaaGreatDoorQeAG
set_option linter.all false
set_option maxHeartbeats 12800000
set_option maxRecDepth 100000
namespace Go.Proofs.YtibnfbglanpoiaaGreatDoor
open Go.Proofs.Tryz
open Go.RowKit
attribute [local go_sem] Oper.semAt_some
theorem refBody_any {n:Nat}{S:Nat→Prop}{w:World}{cs:List Value}{v:V n}{a:Option Addr}{c:Nat}{l:List yr}(h:Env n S w cs v a c l) :
  Calls Tryz.prog 126 #[.agg (vG cs a l.length c).toArray] w fun e w'=>(∃ q d,e = .returned (.slice q (xx n v l).length d)∧zp w' (.slice q (xx n v l).length d) (xx n v l))∧zb [] w w':=by
 obtain⟨kd,nm,st,p1,i1,d1,p2,i2,d2,rfl⟩:=h.rep.conv
 obtain⟨W0,Gl⟩:∃ W0,Hid (W0=w.alloc (.cells #[.int .i64 kd,.int .i64 nm,.string st,.slice p1 i1 d1,.slice p2 i2 d2,.slice a l.length c] 28)):=⟨_,qI rfl⟩
 have Gq:Hid (zb [] w W0):=qI (kA1 Gl.o)
 have Ga:Hid (W0.heap[w.heap.size]? = some (.cells #[.int .i64 kd,.int .i64 nm,.string st,.slice p1 i1 d1,.slice p2 i2 d2,.slice a l.length c] 28 (0,0))):=qI (by rw [Gl.o];exact zd rfl)
 have HE:=qI (h.kept0 Gq.o)
 have CM:Hid (Cz W0 13 #[.agg #[.int .i64 kd,.int .i64 nm,.string st,.slice p1 i1 d1,.slice p2 i2 d2,.slice a l.length c]] (.bool (yj n v l))):=qI (by have h1:=Qb HE.o;exact h1)
 have CE:Hid (∀ w2,zb [] W0 w2→Calls Tryz.prog 161 #[.agg #[.int .i64 kd,.int .i64 nm,.string st,.slice p1 i1 d1,.slice p2 i2 d2]] w2 fun e w'=>(∃ a c,e = .returned (.tuple #[.slice a (qB n v).1.length c,.int .i64 (qB n v).2])∧zp w' (.slice a (qB n v).1.length c) (qB n v).1)∧zb [] w2 w'):=qI (fun w2 hk=>refEncode_any (HE.o.rep.kept0 hk) HE.o.small HE.o.deep)
 have HB:Hid (xx n v l=if yj n v l=true then (qB n v).1 else []):=qI (by unfold xx;rfl)
 clear h
 generalize yj n v l=M at CM HB
 generalize xx n v l=B at HB ⊢
 generalize (qB n v).1=E at CE HB
 generalize (qB n v).2=Z at CE
 generalize l.length=m at Gl Ga CM ⊢
 obtain⟨c0,c1,c2,c3,c4,c5⟩:=xT Ga.o
 show Calls _ _ #[.agg #[.int .i64 kd,.int .i64 nm,.string st,.slice p1 i1 d1,.slice p2 i2 d2,.slice a m c]] _ _
 cases M with
 | false=>
  go_enter func126,ntmps126
  go_upto_region 1 with fail
  refine yq Gl.o ?_
  go_wp2_with (go_at_call 13;refine CM.o.mh ?_;rintro e w1 rfl HK)
  go_ret
  rw [HB.o]
  exact⟨⟨_,_,rfl,yV _ _⟩,Gq.o.then HK.o⟩
 | true=>
  go_enter func126,ntmps126
  go_upto_region 1 with fail
  refine yq Gl.o ?_
  go_upto_region 3 with (go_at_call 13;refine CM.o.mono ?_;rintro e w1 ⟨rfl,hk⟩;have y0:=hk.cell c0 Wz;have y1:=hk.cell c1 Wz;have y2:=hk.cell c2 Wz;have y3:=hk.cell c3 Wz;have y4:=hk.cell c4 Wz;have HK:=qI hk;clear hk c0 c1 c2 c3 c4 c5)
  go_wp2_with (go_at_call 161;refine (CE.o _ HK.o).mono ?_;rintro e w2 ⟨⟨q,d,rfl,hb⟩,hk⟩;have Gy:=qI hk;have Gz:=qI hb;clear hk hb)
  go_ret
  rw [HB.o]
  exact⟨⟨_,_,rfl,Gz.o⟩,Gq.o.then (HK.o.then Gy.o)⟩
theorem refHolds_any {n:Nat}{S:Nat→Prop}{w:World}{cs:List Value}{v:V n}{a:Option Addr}{c:Nat}{l:List yr}(h:Env n S w cs v a c l) (k:zY) (hbk:qX k.bits) (hr:k.root.length=32) (i:Nat) (hi:i<l.length) :
  CL w 95 #[.agg (vG cs a l.length c).toArray,.int .i64 i,.agg (ye k)] (.bool (qg n v l l[i] k)):=by
 obtain⟨kd,nm,st,p1,i1,d1,p2,i2,d2,rfl⟩:=h.rep.conv
 obtain⟨g,o,rfl,-,-,hrow⟩:=h.rows.cells Ws
 obtain⟨W1,Gg⟩:∃ W1,Hid (W1=(w.alloc (.cells #[.int .i64 kd,.int .i64 nm,.string st,.slice p1 i1 d1,.slice p2 i2 d2,.slice (some ⟨g,o,none⟩) l.length c] 28)).alloc (.cells (ye k) 47)):=⟨_,qI rfl⟩
 have Gh:Hid (zb [] w W1):=qI (kA2 Gg.o)
 have Ga:Hid (W1.heap[w.heap.size]? = some (.cells #[.int .i64 kd,.int .i64 nm,.string st,.slice p1 i1 d1,.slice p2 i2 d2,.slice (some ⟨g,o,none⟩) l.length c] 28 (0,0))):=qI (by rw [Gg.o];exact ((zb.refl [] _).alloc _).heap (zd rfl) Wz)
 have HA:Hid (yw W1 (w.heap.size+1) k):=qI (by rw [Gg.o];exact zd Wz)
 have HE:=qI (h.kept0 Gh.o)
 have CM:Hid (Cq W1 13 #[.agg #[.int .i64 kd,.int .i64 nm,.string st,.slice p1 i1 d1,.slice p2 i2 d2,.slice (some ⟨g,o,none⟩) l.length c]] (.bool (yj n v l))):=qI (fun w2 hk=>by have h1:=Qb (HE.o.kept0 hk);exact h1)
 have CB:Hid (∀ w2,zb [] W1 w2→Calls Tryz.prog 126 #[.agg #[.int .i64 kd,.int .i64 nm,.string st,.slice p1 i1 d1,.slice p2 i2 d2,.slice (some ⟨g,o,none⟩) l.length c]] w2 fun e w'=>(∃ q d,e = .returned (.slice q (xx n v l).length d)∧zp w' (.slice q (xx n v l).length d) (xx n v l))∧zb [] w2 w'):=qI (fun w2 hk=>by have h1:=refBody_any (HE.o.kept0 hk);exact h1)
 have CI:Hid (Cq W1 18 #[.agg (ye k)] (.string (yh k))):=qI (fun w2 hk=>jL k hbk hr w2)
 have Gn:Hid (W1.cell? ⟨g,o+i*2,none⟩=some (.string l[i].id)):=qI (Gh.o.cell (hrow i hi 0 _ rfl) Wz)
 have Gt:Hid (W1.cell? ⟨g,o+i*2+1,none⟩=some (.string l[i].sig)):=qI (Gh.o.cell (hrow i hi 1 _ rfl) Wz)
 have CU:=qI (fun w2=>bS l[i].sig (h.texts l[i] (List.getElem_mem _)).2 w2)
 have Gi:Hid (yj n v l=true→∃ b,yJ l[i].sig=some b∧b.length≤524288):=qI (fun hm=>by
  unfold yj at hm
  simp only [Bool.and_eq_true,List.all_eq_true] at hm
  have h1:=hm.2.2.2.2 l[i] (List.getElem_mem _)
  unfold yX at h1
  simp only [Bool.and_eq_true,decide_eq_true_eq] at h1
  obtain⟨b,hb⟩:=Option.isSome_iff_exists.1 h1.2.1
  exact⟨b,hb,by have:=unhex_len hb;have:=h1.2.2;omega⟩)
 have HH:Hid (qg n v l l[i] k=(yj n v l&&(decide (l[i].id=yh k)&&Z5 k (xx n v l) ((yJ l[i].sig).getD [])))):=qI rfl
 have Gu:=qI (Qr n v l)
 have hmI:(l.length:Int)≤1000000:=by have:=h.few;omega
 have hiI:(i:Int)<l.length:=Ws
 have Gf:=qI hr
 have Gv:=qI hbk
 clear h hr hbk hrow HE
 generalize qg n v l l[i] k=res at HH ⊢
 generalize hkid:yh k=kid at CI HH
 clear hkid
 generalize yj n v l=M at CM Gi HH
 generalize xx n v l=B at CB HH Gu
 generalize l[i]=rw at Gn Gt CU Gi HH
 generalize l.length=m at Gg Ga CM CB hmI hiI ⊢
 clear hi
 have hdm:decide (m≤i)=false:=decide_eq_false Ws
 obtain⟨c0,c1,c2,c3,c4,c5⟩:=xT Ga.o
 show Calls _ _ #[.agg #[.int .i64 kd,.int .i64 nm,.string st,.slice p1 i1 d1,.slice p2 i2 d2,.slice (some ⟨g,o,none⟩) m c],.int .i64 i,.agg (ye k)] _ _
 by_cases hid:rw.id=kid
 rotate_left
 ·obtain⟨f1,f2⟩:=ke hid
  rw [decide_eq_false hid] at HH
  clear hid Gi
  go_enter func95,ntmps95
  go_upto_region 1 with fail
  refine yq Gg.o ?_
  go_wp2
  refine zK (n:=61) 24 [fI (.int .i64 i),
   fF,
   fF,
   fI (.int .i64 i),
   fI (.pointer (some ⟨w.heap.size,5,none⟩)),
   fI (.slice (some ⟨g,o,none⟩) m c),
   fI (.int .i64 m),
   fF,
   fF,
   fF,
   fI (.pointer (some ⟨w.heap.size,5,none⟩)),
   fI (.slice (some ⟨g,o,none⟩) m c),
   fI (.int .i64 i),
   fI (.pointer (some ⟨g,o+i*2,none⟩)),
   fI (.pointer (some ⟨g,o+i*2,none⟩)),
   fI (.string rw.id),
   fI (.agg (ye k)),
   fI (.string kid),
   fT,
   fT,
   fT,
   fU,
   fU,
   fU] Wr rfl Wr (fun x=>yH) ?_ ?_
  ·refine⟨?_,?_,?_,?_,?_,?_,?_,?_,?_,?_,?_,?_,?_,?_,?_,?_,?_,?_,?_,?_,?_,?_,?_,?_,trivial⟩ <;> intro x w2 hkw b hd
   ·exact ze
   ·have d0:x 0=_:=hd 0 Wr
    exact ze
   ·have d1:x 1=_:=hd 1 Wr
    exact ze
   ·have d2:x 2=_:=hd 2 Wr
    exact ze
   ·have d2:x 2=_:=hd 2 Wr
    exact ze
   ·have d2:x 2=_:=hd 2 Wr
    have d4:x 4=_:=hd 4 Wr
    have y5:=hkw.cell c5 Wz
    exact ze
   ·have d2:x 2=_:=hd 2 Wr
    have d5:x 5=_:=hd 5 Wr
    exact ze
   ·have d2:x 2=_:=hd 2 Wr
    have d3:x 3=_:=hd 3 Wr
    have d6:x 6=_:=hd 6 Wr
    exact ze
   ·have d2:x 2=_:=hd 2 Wr
    have d7:x 7=_:=hd 7 Wr
    exact ze
   ·have d8:x 8=_:=hd 8 Wr
    exact ze
   ·have d9:x 9=_:=hd 9 Wr
    exact ze
   ·have d9:x 9=_:=hd 9 Wr
    have d10:x 10=_:=hd 10 Wr
    have y5:=hkw.cell c5 Wz
    exact ze
   ·have d9:x 9=_:=hd 9 Wr
    exact ze
   ·have d9:x 9=_:=hd 9 Wr
    have d11:x 11=_:=hd 11 Wr
    have d12:x 12=_:=hd 12 Wr
    exact ze
   ·have d9:x 9=_:=hd 9 Wr
    have d13:x 13=_:=hd 13 Wr
    exact ze
   ·have d9:x 9=_:=hd 9 Wr
    have d14:x 14=_:=hd 14 Wr
    have z0:=hkw.cell Gn.o Wz
    exact ze
   ·have d9:x 9=_:=hd 9 Wr
    have h7:=HA.o.kept0 hkw
    refine yK (by simp only [Nat.reduceAdd,Nat.zero_add];revert d9;generalize x 9=vv;rintro rfl;rfl) (.tmp 5) Wk h7 Gf.o Wk ?_
    exact ze
   ·have d9:x 9=_:=hd 9 Wr
    have d16:x 16=_:=hd 16 Wr
    have d16:x 16=_:=hd 16 Wr
    have d9:x 9=_:=hd 9 Wr
    have CX:=CI.o _ hkw
    go_wp2_with (go_at_call 18;refine CX.mh ?_;rintro e w5 rfl Gb)
    exact⟨rfl,Gb.o⟩
   ·have d9:x 9=_:=hd 9 Wr
    have d15:x 15=_:=hd 15 Wr
    have d17:x 17=_:=hd 17 Wr
    exact ze
   ·have d9:x 9=_:=hd 9 Wr
    have d18:x 18=_:=hd 18 Wr
    exact ze
   ·have d19:x 19=_:=hd 19 Wr
    exact ze
   ·have d20:x 20=_:=hd 20 Wr
    exact ze
   ·have d20:x 20=_:=hd 20 Wr
    have d21:x 21=_:=hd 21 Wr
    exact ze
   ·have d20:x 20=_:=hd 20 Wr
    have d22:x 22=_:=hd 22 Wr
    exact ze
  ·intro x w17 hkw b17 hd hwin
   have d20:x 20=_:=hd 20 Wo
   have d23:x 23=_:=hd 23 Wo
   have Gm:=qI hkw
   clear hd hwin hkw
   change wpList _ _ _ [_] _ _
   go_wp2_with fail
   go_ret
   exact⟨by rw [HH.o];simp,Gh.o.then Gm.o⟩
 obtain⟨f1,f2⟩:=ky hid
 rw [decide_eq_true hid] at HH
 clear hid
 cases M with
 | false=>
  clear Gi
  go_enter func95,ntmps95
  go_upto_region 1 with fail
  refine yq Gg.o ?_
  go_wp2
  refine zK (n:=61) 24 [fI (.int .i64 i),
   fF,
   fF,
   fI (.int .i64 i),
   fI (.pointer (some ⟨w.heap.size,5,none⟩)),
   fI (.slice (some ⟨g,o,none⟩) m c),
   fI (.int .i64 m),
   fF,
   fF,
   fF,
   fI (.pointer (some ⟨w.heap.size,5,none⟩)),
   fI (.slice (some ⟨g,o,none⟩) m c),
   fI (.int .i64 i),
   fI (.pointer (some ⟨g,o+i*2,none⟩)),
   fI (.pointer (some ⟨g,o+i*2,none⟩)),
   fI (.string rw.id),
   fI (.agg (ye k)),
   fI (.string kid),
   fF,
   fF,
   fF,
   fI (.agg #[.int .i64 kd,.int .i64 nm,.string st,.slice p1 i1 d1,.slice p2 i2 d2,.slice (some ⟨g,o,none⟩) m c]),
   fF,
   fT] Wr rfl Wr (fun x=>yH) ?_ ?_
  ·refine⟨?_,?_,?_,?_,?_,?_,?_,?_,?_,?_,?_,?_,?_,?_,?_,?_,?_,?_,?_,?_,?_,?_,?_,?_,trivial⟩ <;> intro x w2 hkw b hd
   ·exact ze
   ·have d0:x 0=_:=hd 0 Wr
    exact ze
   ·have d1:x 1=_:=hd 1 Wr
    exact ze
   ·have d2:x 2=_:=hd 2 Wr
    exact ze
   ·have d2:x 2=_:=hd 2 Wr
    exact ze
   ·have d2:x 2=_:=hd 2 Wr
    have d4:x 4=_:=hd 4 Wr
    have y5:=hkw.cell c5 Wz
    exact ze
   ·have d2:x 2=_:=hd 2 Wr
    have d5:x 5=_:=hd 5 Wr
    exact ze
   ·have d2:x 2=_:=hd 2 Wr
    have d3:x 3=_:=hd 3 Wr
    have d6:x 6=_:=hd 6 Wr
    exact ze
   ·have d2:x 2=_:=hd 2 Wr
    have d7:x 7=_:=hd 7 Wr
    exact ze
   ·have d8:x 8=_:=hd 8 Wr
    exact ze
   ·have d9:x 9=_:=hd 9 Wr
    exact ze
   ·have d9:x 9=_:=hd 9 Wr
    have d10:x 10=_:=hd 10 Wr
    have y5:=hkw.cell c5 Wz
    exact ze
   ·have d9:x 9=_:=hd 9 Wr
    exact ze
   ·have d9:x 9=_:=hd 9 Wr
    have d11:x 11=_:=hd 11 Wr
    have d12:x 12=_:=hd 12 Wr
    exact ze
   ·have d9:x 9=_:=hd 9 Wr
    have d13:x 13=_:=hd 13 Wr
    exact ze
   ·have d9:x 9=_:=hd 9 Wr
    have d14:x 14=_:=hd 14 Wr
    have z0:=hkw.cell Gn.o Wz
    exact ze
   ·have d9:x 9=_:=hd 9 Wr
    have h7:=HA.o.kept0 hkw
    refine yK (by simp only [Nat.reduceAdd,Nat.zero_add];revert d9;generalize x 9=vv;rintro rfl;rfl) (.tmp 5) Wk h7 Gf.o Wk ?_
    exact ze
   ·have d9:x 9=_:=hd 9 Wr
    have d16:x 16=_:=hd 16 Wr
    have d16:x 16=_:=hd 16 Wr
    have d9:x 9=_:=hd 9 Wr
    have CX:=CI.o _ hkw
    go_wp2_with (go_at_call 18;refine CX.mh ?_;rintro e w5 rfl Gb)
    exact⟨rfl,Gb.o⟩
   ·have d9:x 9=_:=hd 9 Wr
    have d15:x 15=_:=hd 15 Wr
    have d17:x 17=_:=hd 17 Wr
    exact ze
   ·have d9:x 9=_:=hd 9 Wr
    have d18:x 18=_:=hd 18 Wr
    exact ze
   ·have d19:x 19=_:=hd 19 Wr
    exact ze
   ·have d20:x 20=_:=hd 20 Wr
    have y0:=hkw.cell c0 Wz
    have y1:=hkw.cell c1 Wz
    have y2:=hkw.cell c2 Wz
    have y3:=hkw.cell c3 Wz
    have y4:=hkw.cell c4 Wz
    have y5:=hkw.cell c5 Wz
    exact ze
   ·have d20:x 20=_:=hd 20 Wr
    have d21:x 21=_:=hd 21 Wr
    have d21:x 21=_:=hd 21 Wr
    have d20:x 20=_:=hd 20 Wr
    have CX:=CM.o _ hkw
    go_wp2_with (go_at_call 13;refine CX.mh ?_;rintro e w5 rfl Gb)
    exact⟨rfl,Gb.o⟩
   ·have d20:x 20=_:=hd 20 Wr
    have d22:x 22=_:=hd 22 Wr
    exact ze
  ·intro x w17 hkw b17 hd hwin
   have d20:x 20=_:=hd 20 Wo
   have d23:x 23=_:=hd 23 Wo
   have Gm:=qI hkw
   clear hd hwin hkw
   change wpList _ _ _ [_] _ _
   go_wp2_with fail
   go_ret
   exact⟨by rw [HH.o];rfl,Gh.o.then Gm.o⟩
 | true=>
  obtain⟨b,hb,hbl⟩:=Gi.o rfl
  rw [hb] at HH CU
  have Ja:=qI hbl
  clear hb hbl Gi
  go_enter func95,ntmps95
  go_upto_region 1 with fail
  refine yq Gg.o ?_
  go_wp2
  refine zK (n:=61) 24 [fI (.int .i64 i),
   fF,
   fF,
   fI (.int .i64 i),
   fI (.pointer (some ⟨w.heap.size,5,none⟩)),
   fI (.slice (some ⟨g,o,none⟩) m c),
   fI (.int .i64 m),
   fF,
   fF,
   fF,
   fI (.pointer (some ⟨w.heap.size,5,none⟩)),
   fI (.slice (some ⟨g,o,none⟩) m c),
   fI (.int .i64 i),
   fI (.pointer (some ⟨g,o+i*2,none⟩)),
   fI (.pointer (some ⟨g,o+i*2,none⟩)),
   fI (.string rw.id),
   fI (.agg (ye k)),
   fI (.string kid),
   fF,
   fF,
   fF,
   fI (.agg #[.int .i64 kd,.int .i64 nm,.string st,.slice p1 i1 d1,.slice p2 i2 d2,.slice (some ⟨g,o,none⟩) m c]),
   fT,
   fF] Wr rfl Wr (fun x=>yH) ?_ ?_
  ·refine⟨?_,?_,?_,?_,?_,?_,?_,?_,?_,?_,?_,?_,?_,?_,?_,?_,?_,?_,?_,?_,?_,?_,?_,?_,trivial⟩ <;> intro x w2 hkw b hd
   ·exact ze
   ·have d0:x 0=_:=hd 0 Wr
    exact ze
   ·have d1:x 1=_:=hd 1 Wr
    exact ze
   ·have d2:x 2=_:=hd 2 Wr
    exact ze
   ·have d2:x 2=_:=hd 2 Wr
    exact ze
   ·have d2:x 2=_:=hd 2 Wr
    have d4:x 4=_:=hd 4 Wr
    have y5:=hkw.cell c5 Wz
    exact ze
   ·have d2:x 2=_:=hd 2 Wr
    have d5:x 5=_:=hd 5 Wr
    exact ze
   ·have d2:x 2=_:=hd 2 Wr
    have d3:x 3=_:=hd 3 Wr
    have d6:x 6=_:=hd 6 Wr
    exact ze
   ·have d2:x 2=_:=hd 2 Wr
    have d7:x 7=_:=hd 7 Wr
    exact ze
   ·have d8:x 8=_:=hd 8 Wr
    exact ze
   ·have d9:x 9=_:=hd 9 Wr
    exact ze
   ·have d9:x 9=_:=hd 9 Wr
    have d10:x 10=_:=hd 10 Wr
    have y5:=hkw.cell c5 Wz
    exact ze
   ·have d9:x 9=_:=hd 9 Wr
    exact ze
   ·have d9:x 9=_:=hd 9 Wr
    have d11:x 11=_:=hd 11 Wr
    have d12:x 12=_:=hd 12 Wr
    exact ze
   ·have d9:x 9=_:=hd 9 Wr
    have d13:x 13=_:=hd 13 Wr
    exact ze
   ·have d9:x 9=_:=hd 9 Wr
    have d14:x 14=_:=hd 14 Wr
    have z0:=hkw.cell Gn.o Wz
    exact ze
   ·have d9:x 9=_:=hd 9 Wr
    have h7:=HA.o.kept0 hkw
    refine yK (by simp only [Nat.reduceAdd,Nat.zero_add];revert d9;generalize x 9=vv;rintro rfl;rfl) (.tmp 5) Wk h7 Gf.o Wk ?_
    exact ze
   ·have d9:x 9=_:=hd 9 Wr
    have d16:x 16=_:=hd 16 Wr
    have d16:x 16=_:=hd 16 Wr
    have d9:x 9=_:=hd 9 Wr
    have CX:=CI.o _ hkw
    go_wp2_with (go_at_call 18;refine CX.mh ?_;rintro e w5 rfl Gb)
    exact⟨rfl,Gb.o⟩
   ·have d9:x 9=_:=hd 9 Wr
    have d15:x 15=_:=hd 15 Wr
    have d17:x 17=_:=hd 17 Wr
    exact ze
   ·have d9:x 9=_:=hd 9 Wr
    have d18:x 18=_:=hd 18 Wr
    exact ze
   ·have d19:x 19=_:=hd 19 Wr
    exact ze
   ·have d20:x 20=_:=hd 20 Wr
    have y0:=hkw.cell c0 Wz
    have y1:=hkw.cell c1 Wz
    have y2:=hkw.cell c2 Wz
    have y3:=hkw.cell c3 Wz
    have y4:=hkw.cell c4 Wz
    have y5:=hkw.cell c5 Wz
    exact ze
   ·have d20:x 20=_:=hd 20 Wr
    have d21:x 21=_:=hd 21 Wr
    have d21:x 21=_:=hd 21 Wr
    have d20:x 20=_:=hd 20 Wr
    have CX:=CM.o _ hkw
    go_wp2_with (go_at_call 13;refine CX.mh ?_;rintro e w5 rfl Gb)
    exact⟨rfl,Gb.o⟩
   ·have d20:x 20=_:=hd 20 Wr
    have d22:x 22=_:=hd 22 Wr
    exact ze
  ·intro x w17 hkw b17 hd hwin
   have d20:x 20=_:=hd 20 Wo
   have d23:x 23=_:=hd 23 Wo
   have Gm:=qI hkw
   have r1:=hkw.cell Gt.o Wz
   have y5:=hkw.cell c5 Wz
   have Jb:=qI (HA.o.kept0 hkw)
   clear hd hwin hkw
   change wpList _ _ _ [_] _ _
   go_upto_region 4 with (go_at_call 32;refine (CU.o _).mono ?_;rintro e w3 ⟨⟨ua,uc,rfl,hb3,-⟩,hk3⟩;have Jc:=qI hb3;have Gr:Hid (zb [] W1 w3):=qI (Gm.o.then hk3);clear hk3 hb3)
   clear r1 y5 d20 d23
   have Gw:=qI (HA.o.kept0 Gr.o)
   have CD:=refSigDec_any k Gv.o Gf.o Jc.o (by have:=Ja.o;omega)
   by_cases hf:zI k=true∧qZ k.bits.toNat k.height.toNat b=true
   ·have CD2:Hid (Calls Tryz.prog 124 #[.agg (ye k),.slice ua b.length uc] w3 fun e w'=>(∃ a1 c1 a2 c2 a3 c3,e = .returned (.tuple #[.agg #[.int .i64 (xS k.bits.toNat k.height.toNat b).leaf,.slice a1 k.bits.toNat c1,.slice a2 k.bits.toNat c2,.slice a3 k.height.toNat c3],.int .i64 0]) ∧
     Slc w' 32 (.slice a1 k.bits.toNat c1) k.bits.toNat ((xS k.bits.toNat k.height.toNat b).one.rev.flatten.map bv)∧Slc w' 32 (.slice a2 k.bits.toNat c2) k.bits.toNat ((xS k.bits.toNat k.height.toNat b).one.oth.flatten.map bv)∧Slc w' 32 (.slice a3 k.height.toNat c3) k.height.toNat ((xS k.bits.toNat k.height.toNat b).way.flatten.map bv))∧zb [] w3 w'):=qI (CD.mono (fun e w' h=>⟨by have h1:=h.1;unfold ju at h1;rw [if_pos hf] at h1;exact h1,h.2⟩))
    have HF:=qI (JN hf.2)
    have Jd:=qI hf.1
    have Ge:Hid (res=Z3 k.root B (xS k.bits.toNat k.height.toNat b)):=qI (by rw [HH.o];unfold Z5;simp only [Option.getD_some];rw [hf.1,hf.2];rfl)
    have Gx:=qI (Kt hf.1)
    clear CD hf HH
    generalize xS k.bits.toNat k.height.toNat b=sg at CD2 HF Ge
    have Gp:=qI (And.intro Gx.o.1 Gx.o.2.1)
    generalize k.bits.toNat=nb at CD2 HF Gp
    generalize k.height.toNat=nh at CD2 HF Gp
    generalize hlf:sg.leaf=lf at CD2
    go_upto_region 5 with first
     | (refine zO Wk (.tmp 5) Wk Gw.o Gf.o Wk ?_)
     | (go_at_call 124;refine CD2.o.mono ?_;rintro e w5 ⟨⟨a5,c5',a6,c6,a7,c7,rfl,hs5,hs6,hs7⟩,hk5⟩;have Je:=qI hs5;have Jf:=qI hs6;have Jg:=qI hs7;have Gb:=qI (Gr.o.then hk5);clear hk5 hs5 hs6 hs7)
    obtain⟨W6,Gj⟩:∃ W6,Hid (W6=w5.alloc (.cells #[.int .i64 lf,.slice a5 nb c5',.slice a6 nb c6,.slice a7 nh c7] 82)):=⟨_,qI rfl⟩
    have Gk:Hid (zb [] w5 W6):=qI (kA1 Gj.o)
    have HS:Hid (vu W6 w5.heap.size lf (.slice a5 nb c5') (.slice a6 nb c6) (.slice a7 nh c7)):=qI (by rw [Gj.o];exact zd rfl)
    rw [← Gj.o]
    have Gd:Hid (zb [] W1 W6):=qI (Gb.o.then Gk.o)
    have CV:Hid (∀ w7,zb [] W6 w7→∀ q d,zp w7 (.slice q B.length d) B→Calls Tryz.prog 125 #[.agg (ye k),.slice q B.length d,.agg #[.int .i64 lf,.slice a5 nb c5',.slice a6 nb c6,.slice a7 nh c7]] w7 fun e w'=>e = .returned (.bool (Z3 k.root B sg))∧zb [] w7 w'):=qI (fun w7 hk q d hb=>by
     rw [← hlf]
     obtain⟨e1,e2,e3,e4,e5,e6,e7⟩:=HF.o
     exact refVerify_any k Gv.o Gf.o Jd.o hb Gu.o sg e1 Gp.o.1 Gp.o.2 e2 e3 e4 e5 e6 e7 ((Je.o.kept0 Gk.o).kept0 hk) ((Jf.o.kept0 Gk.o).kept0 hk) ((Jg.o.kept0 Gk.o).kept0 hk))
    have CB6:Hid (∀ w2,zb [] W6 w2→Calls Tryz.prog 126 #[.agg #[.int .i64 kd,.int .i64 nm,.string st,.slice p1 i1 d1,.slice p2 i2 d2,.slice (some ⟨g,o,none⟩) m c]] w2 fun e w'=>(∃ q d,e = .returned (.slice q B.length d)∧zp w' (.slice q B.length d) B)∧zb [] w2 w'):=qI (fun w2 hk=>CB.o w2 (Gd.o.then hk))
    have Jh:=qI (HA.o.kept0 Gd.o)
    have Gc:=Gd.o.heap Ga.o Wz
    clear c0 c1 c2 c3 c4 c5 hlf hdm
    obtain⟨b0,b1,b2,b3,b4,b5⟩:=xT Gc
    have s0:=za (o:=0) HS.o rfl
    have s1:=za (o:=1) HS.o rfl
    have s2:=za (o:=2) HS.o rfl
    have s3:=za (o:=3) HS.o rfl
    have HV:=qI Ge.o
    generalize Z3 k.root B sg=vr at CV HV
    generalize w5.heap.size=q5 at s0 s1 s2 s3 ⊢
    clear Gc
    go_wp2
    refine zK (n:=61) 9 [fI (.int .i64 0),
     fT,
     fT,
     fI (.agg (ye k)),
     fI (.agg #[.int .i64 kd,.int .i64 nm,.string st,.slice p1 i1 d1,.slice p2 i2 d2,.slice (some ⟨g,o,none⟩) m c]),
     bytesFact B,
     fI (.agg #[.int .i64 lf,.slice a5 nb c5',.slice a6 nb c6,.slice a7 nh c7]),
     fI (.bool vr),
     fI (.bool vr)] Wr rfl Wr (fun x=>yH) ?_ ?_
    ·refine⟨?_,?_,?_,?_,?_,?_,?_,?_,?_,trivial⟩ <;> intro x w2 hkw b hd
     ·exact ze
     ·have d0:x 0=_:=hd 0 Wr
      exact ze
     ·have d1:x 1=_:=hd 1 Wr
      exact ze
     ·have d2:x 2=_:=hd 2 Wr
      have h7:=Jh.o.kept0 hkw
      refine yK (by simp only [Nat.reduceAdd,Nat.zero_add];revert d2;generalize x 2=vv;rintro rfl;rfl) (.tmp 5) Wk h7 Gf.o Wk ?_
      exact ze
     ·have d2:x 2=_:=hd 2 Wr
      have y0:=hkw.cell b0 Wz
      have y1:=hkw.cell b1 Wz
      have y2:=hkw.cell b2 Wz
      have y3:=hkw.cell b3 Wz
      have y4:=hkw.cell b4 Wz
      have y5:=hkw.cell b5 Wz
      exact ze
     ·have d2:x 2=_:=hd 2 Wr
      have d4:x 4=_:=hd 4 Wr
      have d2:x 2=_:=hd 2 Wr
      have d4:x 4=_:=hd 4 Wr
      have CX:=CB6.o _ hkw
      go_wp2_with (go_at_call 126;refine CX.mono ?_;rintro e w9 ⟨⟨q9,d9,rfl,hb9⟩,hk9⟩;have Ji:=qI hb9;have Jj:=qI hk9;clear hb9 hk9)
      exact⟨⟨q9,d9,rfl,Ji.o⟩,Jj.o⟩
     ·have d2:x 2=_:=hd 2 Wr
      have y0:=hkw.cell s0 Wz
      have y1:=hkw.cell s1 Wz
      have y2:=hkw.cell s2 Wz
      have y3:=hkw.cell s3 Wz
      exact ze
     ·have d2:x 2=_:=hd 2 Wr
      have d3:x 3=_:=hd 3 Wr
      have d6:x 6=_:=hd 6 Wr
      have d2:x 2=_:=hd 2 Wr
      have d3:x 3=_:=hd 3 Wr
      obtain⟨q9,e9,d5,hb9⟩:=hd 5 Wr
      have d6:x 6=_:=hd 6 Wr
      have CX:=CV.o _ hkw q9 e9 hb9
      clear hb9
      go_wp2_with (go_at_call 125;refine CX.mh ?_;rintro e w5 rfl Gb)
      exact⟨rfl,Gb.o⟩
     ·have d2:x 2=_:=hd 2 Wr
      have d7:x 7=_:=hd 7 Wr
      exact ze
    ·intro x w18 hkw b18 hd hwin
     have d8:x 8=_:=hd 8 Wo
     have Gs:=qI hkw
     clear hd hwin hkw
     change wpList _ _ _ [_] _ _
     go_wp2_with fail
     go_ret
     exact⟨by rw [HV.o];exact congrArg Ending.returned d8,Gh.o.then (Gd.o.then Gs.o)⟩
   ·have CD2:Hid (Calls Tryz.prog 124 #[.agg (ye k),.slice ua b.length uc] w3 fun e w'=>(∃ z:Int,z≠0∧e = .returned (.tuple #[.agg #[.int .i64 0,.slice none 0 0,.slice none 0 0,.slice none 0 0],.int .i64 z]))∧zb [] w3 w'):=qI (CD.mono (fun e w' h=>⟨by have h1:=h.1;unfold ju at h1;rw [if_neg hf] at h1;obtain⟨z,h2,-,-,h3⟩:=h1;exact⟨z,h2,h3⟩,h.2⟩))
    have Ge:Hid (res=false):=qI (by
     rw [HH.o];unfold Z5;simp only [Option.getD_some]
     cases h1:zI k with
     | false=>rfl
     | true=>
      cases h2:qZ k.bits.toNat k.height.toNat b with
      | false=>rfl
      | true=>exact absurd ⟨h1,h2⟩ hf)
    clear CD hf HH
    go_upto_region 5 with first
     | (refine zO Wk (.tmp 5) Wk Gw.o Gf.o Wk ?_)
     | (go_at_call 124;refine CD2.o.mono ?_;rintro e w5 ⟨⟨z,hz,rfl⟩,hk5⟩;obtain⟨z1,z2⟩:=yF hz;have Gb:=qI (Gr.o.then hk5);clear hk5 hz)
    obtain⟨W6,Gj⟩:∃ W6,Hid (W6=w5.alloc (.cells #[.int .i64 0,.slice none 0 0,.slice none 0 0,.slice none 0 0] 82)):=⟨_,qI rfl⟩
    have Gk:Hid (zb [] w5 W6):=qI (kA1 Gj.o)
    rw [← Gj.o]
    have Gd:Hid (zb [] W1 W6):=qI (Gb.o.then Gk.o)
    clear c0 c1 c2 c3 c4 c5 hdm
    go_wp2
    refine zK (n:=61) 9 [fI (.int .i64 z),
     fF,
     fF,
     fU,
     fU,
     fU,
     fU,
     fU,
     fF] Wr rfl Wr (fun x=>yH) ?_ ?_
    ·refine⟨?_,?_,?_,?_,?_,?_,?_,?_,?_,trivial⟩ <;> intro x w2 hkw b hd
     ·exact ze
     ·have d0:x 0=_:=hd 0 Wr
      exact ze
     ·have d1:x 1=_:=hd 1 Wr
      exact ze
     ·have d2:x 2=_:=hd 2 Wr
      exact ze
     ·have d2:x 2=_:=hd 2 Wr
      exact ze
     ·have d2:x 2=_:=hd 2 Wr
      have d4:x 4=_:=hd 4 Wr
      exact ze
     ·have d2:x 2=_:=hd 2 Wr
      exact ze
     ·have d2:x 2=_:=hd 2 Wr
      have d3:x 3=_:=hd 3 Wr
      have d5:x 5=_:=hd 5 Wr
      have d6:x 6=_:=hd 6 Wr
      exact ze
     ·have d2:x 2=_:=hd 2 Wr
      have d7:x 7=_:=hd 7 Wr
      exact ze
    ·intro x w18 hkw b18 hd hwin
     have d8:x 8=_:=hd 8 Wo
     have Gs:=qI hkw
     clear hd hwin hkw
     change wpList _ _ _ [_] _ _
     go_wp2_with fail
     go_ret
     exact⟨by rw [Ge.o];exact congrArg Ending.returned d8,Gh.o.then (Gd.o.then Gs.o)⟩
end Go.Proofs.YtibnfbglanpoiaaGreatDoor

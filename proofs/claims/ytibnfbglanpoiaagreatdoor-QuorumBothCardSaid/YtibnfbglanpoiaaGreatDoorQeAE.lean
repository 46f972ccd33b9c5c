/- Parts of one proof, merged: XCZ. -/
import Derived.Test.YtibnfbglanpoiaaGreatDoorQeAD
import Derived.Test.YtibnfbglanpoiaaGreatDoorQeS
set_option linter.all false
set_option maxHeartbeats 12800000
set_option maxRecDepth 100000
namespace Go.Proofs.YtibnfbglanpoiaaGreatDoor
open Go.Proofs.Tryz
open Go.RowKit
attribute [local go_sem] Oper.semAt_some
def Z5 (k:zY) (m b:List UInt8):Bool:=zI k&&(qZ k.bits.toNat k.height.toNat b&&Z3 k.root m (xS k.bits.toNat k.height.toNat b))
def qg (n:Nat) (v:V n) (l:List yr) (r:yr) (k:zY):Bool:=yj n v l&&(decide (r.id=yh k)&&Z5 k (xx n v l) ((yJ r.sig).getD []))
def bytesFact (l:List UInt8):kf (zb []):=⟨fun v _ w=>∃ q d,v = .slice q l.length d∧zp w (.slice q l.length d) l,fun _ _ _ _ ⟨q,d,h1,h2⟩ k=>⟨q,d,h1,h2.kept0 k⟩⟩
theorem unhex_len {s:ByteArray}{b:List UInt8}(h:yJ s=some b):b.length≤s.size/2:=by
 unfold yJ at h
 split at h
 ·cases h
  rw [jX]
  exact Nat.le_refl _
 ·cases h
theorem encV_len (n:Nat) (v:V n):(qB n v).1.length≤262144:=by
 unfold qB
 split
 ·simp
 ·split
  ·simp
  ·simp only;omega
theorem Qr (n:Nat) (v:V n) (l:List yr):(xx n v l).length≤1048576:=by
 unfold xx
 split
 ·have:=encV_len n v;omega
 ·simp
theorem Kt {k:zY}(h:zI k=true):k.bits=(k.bits.toNat:Nat)∧k.height=(k.height.toNat:Nat)∧k.bits.toNat≤256∧k.height.toNat≤6:=by
 unfold zI yv at h
 simp only [Bool.and_eq_true,decide_eq_true_eq] at h
 omega
theorem JN {nb nh:Nat}{b:List UInt8}(h:qZ nb nh b=true):(xS nb nh b).leaf≤1073741824∧(xS nb nh b).one.rev.length=nb∧(xS nb nh b).one.oth.length=nb∧(xS nb nh b).way.length=nh∧yC (xS nb nh b).one.rev∧yC (xS nb nh b).one.oth∧yC (xS nb nh b).way:=by
 unfold qZ at h
 simp only [Bool.and_eq_true,decide_eq_true_eq] at h
 have h1:((b.drop 4).take (64*nb)).length=64*nb:=by simp;omega
 have h2:((b.drop (4+64*nb)).take (32*nh)).length=32*nh:=by simp;omega
 exact⟨h.2,(Y6 _ _).1,(Y6 _ _).2,K3 _ _ _,(decO_32 h1).1,(decO_32 h1).2,cutL_32 h2⟩
theorem holds_any {n:Nat}{S:Nat→Prop}{w:World}{cs:List Value}{v:V n}{a:Option Addr}{c:Nat}{l:List yr}(h:Env n S w cs v a c l) (ht:qC w) (hks:xN w) (k:zY) (hbk:qX k.bits) (hr:k.root.length=32) (i:Nat) (hi:i<l.length) :
  CL w 62 #[.agg (vG cs a l.length c).toArray,.int .i64 i,.agg (ye k)] (.bool (qg n v l l[i] k)):=by
 obtain⟨kd,nm,st,p1,i1,d1,p2,i2,d2,rfl⟩:=h.rep.conv
 obtain⟨g,o,rfl,-,-,hrow⟩:=h.rows.cells Ws
 obtain⟨W1,Gg⟩:∃ W1,Hid (W1=(w.alloc (.cells #[.int .i64 kd,.int .i64 nm,.string st,.slice p1 i1 d1,.slice p2 i2 d2,.slice (some ⟨g,o,none⟩) l.length c] 28)).alloc (.cells (ye k) 47)):=⟨_,qI rfl⟩
 have Gd:Hid (zb [] w W1):=qI (kA2 Gg.o)
 have Gf:Hid (W1.heap[w.heap.size]? = some (.cells #[.int .i64 kd,.int .i64 nm,.string st,.slice p1 i1 d1,.slice p2 i2 d2,.slice (some ⟨g,o,none⟩) l.length c] 28 (0,0))):=qI (by rw [Gg.o];exact ((zb.refl [] _).alloc _).heap (zd rfl) Wz)
 have HA:Hid (yw W1 (w.heap.size+1) k):=qI (by rw [Gg.o];exact zd Wz)
 have HE:=qI (h.kept0 Gd.o)
 have HT:=qI (ht.kept0 Gd.o)
 have Gr:=qI (hks.kept0 Gd.o)
 have CM:Hid (Cq W1 25 #[.agg #[.int .i64 kd,.int .i64 nm,.string st,.slice p1 i1 d1,.slice p2 i2 d2,.slice (some ⟨g,o,none⟩) l.length c]] (.bool (yj n v l))):=qI (fun w2 hk=>by have h1:=bR (HE.o.kept0 hk) (HT.o.kept0 hk);exact h1)
 have CB:Hid (∀ w2,zb [] W1 w2→Calls Tryz.prog 40 #[.agg #[.int .i64 kd,.int .i64 nm,.string st,.slice p1 i1 d1,.slice p2 i2 d2,.slice (some ⟨g,o,none⟩) l.length c]] w2 fun e w'=>(∃ q d,e = .returned (.slice q (xx n v l).length d)∧zp w' (.slice q (xx n v l).length d) (xx n v l))∧zb [] w2 w'):=qI (fun w2 hk=>by have h1:=body_any (HE.o.kept0 hk) (HT.o.kept0 hk);exact h1)
 have CI:Hid (Cq W1 43 #[.agg (ye k)] (.string (yh k))):=qI (fun w2 hk=>QB k hbk hr w2 (HT.o.kept0 hk) (Gr.o.kept0 hk))
 have Gm:Hid (W1.cell? ⟨g,o+i*2,none⟩=some (.string l[i].id)):=qI (Gd.o.cell (hrow i hi 0 _ rfl) Wz)
 have Gs:Hid (W1.cell? ⟨g,o+i*2+1,none⟩=some (.string l[i].sig)):=qI (Gd.o.cell (hrow i hi 1 _ rfl) Wz)
 have CU:=qI (fun w2=>ZP l[i].sig (h.texts l[i] (List.getElem_mem _)).2 w2)
 have Gn:Hid (yj n v l=true→∃ b,yJ l[i].sig=some b∧b.length≤524288):=qI (fun hm=>by
  unfold yj at hm
  simp only [Bool.and_eq_true,List.all_eq_true] at hm
  have h1:=hm.2.2.2.2 l[i] (List.getElem_mem _)
  unfold yX at h1
  simp only [Bool.and_eq_true,decide_eq_true_eq] at h1
  obtain⟨b,hb⟩:=Option.isSome_iff_exists.1 h1.2.1
  exact⟨b,hb,by have:=unhex_len hb;have:=h1.2.2;omega⟩)
 have HH:Hid (qg n v l l[i] k=(yj n v l&&(decide (l[i].id=yh k)&&Z5 k (xx n v l) ((yJ l[i].sig).getD [])))):=qI rfl
 have Gt:=qI (Qr n v l)
 have hmI:(l.length:Int)≤1000000:=by have:=h.few;omega
 have hiI:(i:Int)<l.length:=Ws
 have Gh:=qI hr
 have Gu:=qI hbk
 clear h ht hks hr hbk hrow HE
 generalize qg n v l l[i] k=res at HH ⊢
 generalize hkid:yh k=kid at CI HH
 clear hkid
 generalize yj n v l=M at CM Gn HH
 generalize xx n v l=B at CB HH Gt
 generalize l[i]=rw at Gm Gs CU Gn HH
 generalize l.length=m at Gg Gf CM CB hmI hiI ⊢
 clear hi
 have hdm:decide (m≤i)=false:=decide_eq_false Ws
 obtain⟨c0,c1,c2,c3,c4,c5⟩:=xT Gf.o
 show Calls _ _ #[.agg #[.int .i64 kd,.int .i64 nm,.string st,.slice p1 i1 d1,.slice p2 i2 d2,.slice (some ⟨g,o,none⟩) m c],.int .i64 i,.agg (ye k)] _ _
 cases M with
 | false=>
  go_enter func62,ntmps62
  go_upto_region 1 with fail
  refine yq Gg.o ?_
  go_wp2
  refine zK (n:=61) 24 [fI (.agg #[.int .i64 kd,.int .i64 nm,.string st,.slice p1 i1 d1,.slice p2 i2 d2,.slice (some ⟨g,o,none⟩) m c]),
   fF,
   fT,
   fT,
   fU,
   fU,
   fT,
   fT,
   fU,
   fU,
   fU,
   fU,
   fU,
   fT,
   fT,
   fU,
   fU,
   fU,
   fU,
   fU,
   fU,
   fU,
   fU,
   fU] Wr rfl Wr (fun x=>yH) ?_ ?_
  ·refine⟨?_,?_,?_,?_,?_,?_,?_,?_,?_,?_,?_,?_,?_,?_,?_,?_,?_,?_,?_,?_,?_,?_,?_,?_,trivial⟩ <;> intro x w2 hkw b hd
   ·have y0:=hkw.cell c0 Wz
    have y1:=hkw.cell c1 Wz
    have y2:=hkw.cell c2 Wz
    have y3:=hkw.cell c3 Wz
    have y4:=hkw.cell c4 Wz
    have y5:=hkw.cell c5 Wz
    exact ze
   ·have d0:x 0=_:=hd 0 Wr
    have d0:x 0=_:=hd 0 Wr
    have CX:=CM.o _ hkw
    go_wp2_with (go_at_call 25;refine CX.mh ?_;rintro e w5 rfl Ga)
    exact⟨rfl,Ga.o⟩
   ·have d1:x 1=_:=hd 1 Wr
    exact ze
   ·have d2:x 2=_:=hd 2 Wr
    exact ze
   ·have d3:x 3=_:=hd 3 Wr
    exact ze
   ·have d3:x 3=_:=hd 3 Wr
    have d4:x 4=_:=hd 4 Wr
    exact ze
   ·have d3:x 3=_:=hd 3 Wr
    have d5:x 5=_:=hd 5 Wr
    exact ze
   ·have d6:x 6=_:=hd 6 Wr
    exact ze
   ·have d7:x 7=_:=hd 7 Wr
    exact ze
   ·have d7:x 7=_:=hd 7 Wr
    exact ze
   ·have d7:x 7=_:=hd 7 Wr
    have d9:x 9=_:=hd 9 Wr
    exact ze
   ·have d7:x 7=_:=hd 7 Wr
    have d10:x 10=_:=hd 10 Wr
    exact ze
   ·have d7:x 7=_:=hd 7 Wr
    have d8:x 8=_:=hd 8 Wr
    have d11:x 11=_:=hd 11 Wr
    exact ze
   ·have d7:x 7=_:=hd 7 Wr
    have d12:x 12=_:=hd 12 Wr
    exact ze
   ·have d13:x 13=_:=hd 13 Wr
    exact ze
   ·have d14:x 14=_:=hd 14 Wr
    exact ze
   ·have d14:x 14=_:=hd 14 Wr
    have d15:x 15=_:=hd 15 Wr
    exact ze
   ·have d14:x 14=_:=hd 14 Wr
    exact ze
   ·have d14:x 14=_:=hd 14 Wr
    have d16:x 16=_:=hd 16 Wr
    have d17:x 17=_:=hd 17 Wr
    exact ze
   ·have d14:x 14=_:=hd 14 Wr
    have d18:x 18=_:=hd 18 Wr
    exact ze
   ·have d14:x 14=_:=hd 14 Wr
    have d19:x 19=_:=hd 19 Wr
    exact ze
   ·have d14:x 14=_:=hd 14 Wr
    exact ze
   ·have d14:x 14=_:=hd 14 Wr
    have d21:x 21=_:=hd 21 Wr
    exact ze
   ·have d14:x 14=_:=hd 14 Wr
    have d20:x 20=_:=hd 20 Wr
    have d22:x 22=_:=hd 22 Wr
    exact ze
  ·intro x w17 hkw b17 hd hwin
   have d14:x 14=_:=hd 14 Wo
   have Gk:=qI hkw
   clear hd hwin hkw
   change wpList _ _ _ [_] _ _
   go_wp2_with fail
   go_ret
   exact⟨by rw [HH.o];rfl,Gd.o.then Gk.o⟩
 | true=>
  obtain⟨b,hb,hbl⟩:=Gn.o rfl
  rw [hb] at HH CU
  clear hb
  by_cases hid:rw.id=kid
  rotate_left
  ·obtain⟨f1,f2⟩:=ke hid
   rw [decide_eq_false hid] at HH
   clear hid hbl
   go_enter func62,ntmps62
   go_upto_region 1 with fail
   refine yq Gg.o ?_
   go_wp2
   refine zK (n:=61) 24 [fI (.agg #[.int .i64 kd,.int .i64 nm,.string st,.slice p1 i1 d1,.slice p2 i2 d2,.slice (some ⟨g,o,none⟩) m c]),
    fT,
    fF,
    fF,
    fI (.int .i64 i),
    fF,
    fF,
    fF,
    fI (.int .i64 i),
    fI (.pointer (some ⟨w.heap.size,5,none⟩)),
    fI (.slice (some ⟨g,o,none⟩) m c),
    fI (.int .i64 m),
    fF,
    fF,
    fF,
    fI (.pointer (some ⟨w.heap.size,5,none⟩)),
    fI (.slice (some ⟨g,o,none⟩) m c),
    fI (.int .i64 i),
    fI (.pointer (some ⟨g,o+i*2,none⟩)),
    fI (.pointer (some ⟨g,o+i*2,none⟩)),
    fI (.string rw.id),
    fI (.agg (ye k)),
    fI (.string kid),
    fT] Wr rfl Wr (fun x=>yH) ?_ ?_
   ·refine⟨?_,?_,?_,?_,?_,?_,?_,?_,?_,?_,?_,?_,?_,?_,?_,?_,?_,?_,?_,?_,?_,?_,?_,?_,trivial⟩ <;> intro x w2 hkw b hd
    ·have y0:=hkw.cell c0 Wz
     have y1:=hkw.cell c1 Wz
     have y2:=hkw.cell c2 Wz
     have y3:=hkw.cell c3 Wz
     have y4:=hkw.cell c4 Wz
     have y5:=hkw.cell c5 Wz
     exact ze
    ·have d0:x 0=_:=hd 0 Wr
     have d0:x 0=_:=hd 0 Wr
     have CX:=CM.o _ hkw
     go_wp2_with (go_at_call 25;refine CX.mh ?_;rintro e w5 rfl Ga)
     exact⟨rfl,Ga.o⟩
    ·have d1:x 1=_:=hd 1 Wr
     exact ze
    ·have d2:x 2=_:=hd 2 Wr
     exact ze
    ·have d3:x 3=_:=hd 3 Wr
     exact ze
    ·have d3:x 3=_:=hd 3 Wr
     have d4:x 4=_:=hd 4 Wr
     exact ze
    ·have d3:x 3=_:=hd 3 Wr
     have d5:x 5=_:=hd 5 Wr
     exact ze
    ·have d6:x 6=_:=hd 6 Wr
     exact ze
    ·have d7:x 7=_:=hd 7 Wr
     exact ze
    ·have d7:x 7=_:=hd 7 Wr
     exact ze
    ·have d7:x 7=_:=hd 7 Wr
     have d9:x 9=_:=hd 9 Wr
     have y5:=hkw.cell c5 Wz
     exact ze
    ·have d7:x 7=_:=hd 7 Wr
     have d10:x 10=_:=hd 10 Wr
     exact ze
    ·have d7:x 7=_:=hd 7 Wr
     have d8:x 8=_:=hd 8 Wr
     have d11:x 11=_:=hd 11 Wr
     exact ze
    ·have d7:x 7=_:=hd 7 Wr
     have d12:x 12=_:=hd 12 Wr
     exact ze
    ·have d13:x 13=_:=hd 13 Wr
     exact ze
    ·have d14:x 14=_:=hd 14 Wr
     exact ze
    ·have d14:x 14=_:=hd 14 Wr
     have d15:x 15=_:=hd 15 Wr
     have y5:=hkw.cell c5 Wz
     exact ze
    ·have d14:x 14=_:=hd 14 Wr
     exact ze
    ·have d14:x 14=_:=hd 14 Wr
     have d16:x 16=_:=hd 16 Wr
     have d17:x 17=_:=hd 17 Wr
     exact ze
    ·have d14:x 14=_:=hd 14 Wr
     have d18:x 18=_:=hd 18 Wr
     exact ze
    ·have d14:x 14=_:=hd 14 Wr
     have d19:x 19=_:=hd 19 Wr
     have z0:=hkw.cell Gm.o Wz
     exact ze
    ·have d14:x 14=_:=hd 14 Wr
     have h7:=HA.o.kept0 hkw
     refine yK (by simp only [Nat.reduceAdd,Nat.zero_add];revert d14;generalize x 14=vv;rintro rfl;rfl) (.tmp 5) Wk h7 Gh.o Wk ?_
     exact ze
    ·have d14:x 14=_:=hd 14 Wr
     have d21:x 21=_:=hd 21 Wr
     have d21:x 21=_:=hd 21 Wr
     have d14:x 14=_:=hd 14 Wr
     have CX:=CI.o _ hkw
     go_wp2_with (go_at_call 43;refine CX.mh ?_;rintro e w5 rfl Ga)
     exact⟨rfl,Ga.o⟩
    ·have d14:x 14=_:=hd 14 Wr
     have d20:x 20=_:=hd 20 Wr
     have d22:x 22=_:=hd 22 Wr
     exact ze
   ·intro x w17 hkw b17 hd hwin
    have d14:x 14=_:=hd 14 Wo
    have d23:x 23=_:=hd 23 Wo
    have Gk:=qI hkw
    clear hd hwin hkw
    change wpList _ _ _ [_] _ _
    go_wp2_with fail
    go_ret
    exact⟨by rw [HH.o];rfl,Gd.o.then Gk.o⟩
  ·obtain⟨f1,f2⟩:=ky hid
   rw [decide_eq_true hid] at HH
   have Gx:=qI hbl
   clear hid hbl
   go_enter func62,ntmps62
   go_upto_region 1 with fail
   refine yq Gg.o ?_
   go_wp2
   refine zK (n:=61) 24 [fI (.agg #[.int .i64 kd,.int .i64 nm,.string st,.slice p1 i1 d1,.slice p2 i2 d2,.slice (some ⟨g,o,none⟩) m c]),
    fT,
    fF,
    fF,
    fI (.int .i64 i),
    fF,
    fF,
    fF,
    fI (.int .i64 i),
    fI (.pointer (some ⟨w.heap.size,5,none⟩)),
    fI (.slice (some ⟨g,o,none⟩) m c),
    fI (.int .i64 m),
    fF,
    fF,
    fF,
    fI (.pointer (some ⟨w.heap.size,5,none⟩)),
    fI (.slice (some ⟨g,o,none⟩) m c),
    fI (.int .i64 i),
    fI (.pointer (some ⟨g,o+i*2,none⟩)),
    fI (.pointer (some ⟨g,o+i*2,none⟩)),
    fI (.string rw.id),
    fI (.agg (ye k)),
    fI (.string kid),
    fF] Wr rfl Wr (fun x=>yH) ?_ ?_
   ·refine⟨?_,?_,?_,?_,?_,?_,?_,?_,?_,?_,?_,?_,?_,?_,?_,?_,?_,?_,?_,?_,?_,?_,?_,?_,trivial⟩ <;> intro x w2 hkw b hd
    ·have y0:=hkw.cell c0 Wz
     have y1:=hkw.cell c1 Wz
     have y2:=hkw.cell c2 Wz
     have y3:=hkw.cell c3 Wz
     have y4:=hkw.cell c4 Wz
     have y5:=hkw.cell c5 Wz
     exact ze
    ·have d0:x 0=_:=hd 0 Wr
     have d0:x 0=_:=hd 0 Wr
     have CX:=CM.o _ hkw
     go_wp2_with (go_at_call 25;refine CX.mh ?_;rintro e w5 rfl Ga)
     exact⟨rfl,Ga.o⟩
    ·have d1:x 1=_:=hd 1 Wr
     exact ze
    ·have d2:x 2=_:=hd 2 Wr
     exact ze
    ·have d3:x 3=_:=hd 3 Wr
     exact ze
    ·have d3:x 3=_:=hd 3 Wr
     have d4:x 4=_:=hd 4 Wr
     exact ze
    ·have d3:x 3=_:=hd 3 Wr
     have d5:x 5=_:=hd 5 Wr
     exact ze
    ·have d6:x 6=_:=hd 6 Wr
     exact ze
    ·have d7:x 7=_:=hd 7 Wr
     exact ze
    ·have d7:x 7=_:=hd 7 Wr
     exact ze
    ·have d7:x 7=_:=hd 7 Wr
     have d9:x 9=_:=hd 9 Wr
     have y5:=hkw.cell c5 Wz
     exact ze
    ·have d7:x 7=_:=hd 7 Wr
     have d10:x 10=_:=hd 10 Wr
     exact ze
    ·have d7:x 7=_:=hd 7 Wr
     have d8:x 8=_:=hd 8 Wr
     have d11:x 11=_:=hd 11 Wr
     exact ze
    ·have d7:x 7=_:=hd 7 Wr
     have d12:x 12=_:=hd 12 Wr
     exact ze
    ·have d13:x 13=_:=hd 13 Wr
     exact ze
    ·have d14:x 14=_:=hd 14 Wr
     exact ze
    ·have d14:x 14=_:=hd 14 Wr
     have d15:x 15=_:=hd 15 Wr
     have y5:=hkw.cell c5 Wz
     exact ze
    ·have d14:x 14=_:=hd 14 Wr
     exact ze
    ·have d14:x 14=_:=hd 14 Wr
     have d16:x 16=_:=hd 16 Wr
     have d17:x 17=_:=hd 17 Wr
     exact ze
    ·have d14:x 14=_:=hd 14 Wr
     have d18:x 18=_:=hd 18 Wr
     exact ze
    ·have d14:x 14=_:=hd 14 Wr
     have d19:x 19=_:=hd 19 Wr
     have z0:=hkw.cell Gm.o Wz
     exact ze
    ·have d14:x 14=_:=hd 14 Wr
     have h7:=HA.o.kept0 hkw
     refine yK (by simp only [Nat.reduceAdd,Nat.zero_add];revert d14;generalize x 14=vv;rintro rfl;rfl) (.tmp 5) Wk h7 Gh.o Wk ?_
     exact ze
    ·have d14:x 14=_:=hd 14 Wr
     have d21:x 21=_:=hd 21 Wr
     have d21:x 21=_:=hd 21 Wr
     have d14:x 14=_:=hd 14 Wr
     have CX:=CI.o _ hkw
     go_wp2_with (go_at_call 43;refine CX.mh ?_;rintro e w5 rfl Ga)
     exact⟨rfl,Ga.o⟩
    ·have d14:x 14=_:=hd 14 Wr
     have d20:x 20=_:=hd 20 Wr
     have d22:x 22=_:=hd 22 Wr
     exact ze
   ·intro x w17 hkw b17 hd hwin
    have d14:x 14=_:=hd 14 Wo
    have d23:x 23=_:=hd 23 Wo
    have Gk:=qI hkw
    have r1:=hkw.cell Gs.o Wz
    have y5:=hkw.cell c5 Wz
    have Gy:=qI (HA.o.kept0 hkw)
    clear hd hwin hkw
    change wpList _ _ _ [_] _ _
    go_upto_region 4 with (go_at_call 96;refine (CU.o _).mono ?_;rintro e w3 ⟨⟨ua,uc,rfl,hb3,-⟩,hk3⟩;have Gz:=qI hb3;have Gp:Hid (zb [] W1 w3):=qI (Gk.o.then hk3);clear hk3 hb3)
    clear r1 y5 d14 d23
    have Gv:=qI (HA.o.kept0 Gp.o)
    have CD:=sigDecode_any k Gu.o Gh.o Gz.o (by have:=Gx.o;omega)
    by_cases hf:zI k=true∧qZ k.bits.toNat k.height.toNat b=true
    ·have CD2:Hid (Calls Tryz.prog 101 #[.agg (ye k),.slice ua b.length uc] w3 fun e w'=>(∃ a1 c1 a2 c2 a3 c3,e = .returned (.tuple #[.agg #[.int .i64 (xS k.bits.toNat k.height.toNat b).leaf,.slice a1 k.bits.toNat c1,.slice a2 k.bits.toNat c2,.slice a3 k.height.toNat c3],.int .i64 0]) ∧
      Slc w' 32 (.slice a1 k.bits.toNat c1) k.bits.toNat ((xS k.bits.toNat k.height.toNat b).one.rev.flatten.map bv)∧Slc w' 32 (.slice a2 k.bits.toNat c2) k.bits.toNat ((xS k.bits.toNat k.height.toNat b).one.oth.flatten.map bv)∧Slc w' 32 (.slice a3 k.height.toNat c3) k.height.toNat ((xS k.bits.toNat k.height.toNat b).way.flatten.map bv))∧zb [] w3 w'):=qI (CD.mono (fun e w' h=>⟨by have h1:=h.1;unfold ju at h1;rw [if_pos hf] at h1;exact h1,h.2⟩))
     have HF:=qI (JN hf.2)
     have Ja:=qI hf.1
     have Ge:Hid (res=Z3 k.root B (xS k.bits.toNat k.height.toNat b)):=qI (by rw [HH.o];unfold Z5;simp only [Option.getD_some];rw [hf.1,hf.2];rfl)
     have Gw:=qI (Kt hf.1)
     clear CD hf HH
     generalize xS k.bits.toNat k.height.toNat b=sg at CD2 HF Ge
     have Gl:=qI (And.intro Gw.o.1 Gw.o.2.1)
     generalize k.bits.toNat=nb at CD2 HF Gl
     generalize k.height.toNat=nh at CD2 HF Gl
     generalize hlf:sg.leaf=lf at CD2
     go_upto_region 5 with first
      | (refine zO Wk (.tmp 5) Wk Gv.o Gh.o Wk ?_)
      | (go_at_call 101;refine CD2.o.mono ?_;rintro e w5 ⟨⟨a5,c5',a6,c6,a7,c7,rfl,hs5,hs6,hs7⟩,hk5⟩;have Jb:=qI hs5;have Jc:=qI hs6;have Jd:=qI hs7;have Ga:=qI (Gp.o.then hk5);clear hk5 hs5 hs6 hs7)
     obtain⟨W6,Gi⟩:∃ W6,Hid (W6=w5.alloc (.cells #[.int .i64 lf,.slice a5 nb c5',.slice a6 nb c6,.slice a7 nh c7] 82)):=⟨_,qI rfl⟩
     have Gj:Hid (zb [] w5 W6):=qI (kA1 Gi.o)
     have HS:Hid (vu W6 w5.heap.size lf (.slice a5 nb c5') (.slice a6 nb c6) (.slice a7 nh c7)):=qI (by rw [Gi.o];exact zd rfl)
     rw [← Gi.o]
     have Gb:Hid (zb [] W1 W6):=qI (Ga.o.then Gj.o)
     have CV:Hid (∀ w7,zb [] W6 w7→∀ q d,zp w7 (.slice q B.length d) B→Calls Tryz.prog 102 #[.agg (ye k),.slice q B.length d,.agg #[.int .i64 lf,.slice a5 nb c5',.slice a6 nb c6,.slice a7 nh c7]] w7 fun e w'=>e = .returned (.bool (Z3 k.root B sg))∧zb [] w7 w'):=qI (fun w7 hk q d hb=>by
      rw [← hlf]
      obtain⟨e1,e2,e3,e4,e5,e6,e7⟩:=HF.o
      exact sigVerify_any k Gu.o Gh.o Ja.o hb Gt.o sg e1 Gl.o.1 Gl.o.2 e2 e3 e4 e5 e6 e7 ((Jb.o.kept0 Gj.o).kept0 hk) ((Jc.o.kept0 Gj.o).kept0 hk) ((Jd.o.kept0 Gj.o).kept0 hk) (Gr.o.kept0 (Gb.o.then hk)))
     have CB6:Hid (∀ w2,zb [] W6 w2→Calls Tryz.prog 40 #[.agg #[.int .i64 kd,.int .i64 nm,.string st,.slice p1 i1 d1,.slice p2 i2 d2,.slice (some ⟨g,o,none⟩) m c]] w2 fun e w'=>(∃ q d,e = .returned (.slice q B.length d)∧zp w' (.slice q B.length d) B)∧zb [] w2 w'):=qI (fun w2 hk=>CB.o w2 (Gb.o.then hk))
     have Je:=qI (HA.o.kept0 Gb.o)
     have Gc:=Gb.o.heap Gf.o Wz
     clear c0 c1 c2 c3 c4 c5 hlf hdm
     obtain⟨b0,b1,b2,b3,b4,b5⟩:=xT Gc
     have s0:=za (o:=0) HS.o rfl
     have s1:=za (o:=1) HS.o rfl
     have s2:=za (o:=2) HS.o rfl
     have s3:=za (o:=3) HS.o rfl
     have HV:=qI Ge.o
     generalize Z3 k.root B sg=vr at CV HV
     generalize w5.heap.size=q5 at s0 s1 s2 s3 ⊢
     clear Gc
     go_wp2
     refine zK (n:=61) 9 [fI (.int .i64 0),
      fT,
      fT,
      fI (.agg (ye k)),
      fI (.agg #[.int .i64 kd,.int .i64 nm,.string st,.slice p1 i1 d1,.slice p2 i2 d2,.slice (some ⟨g,o,none⟩) m c]),
      bytesFact B,
      fI (.agg #[.int .i64 lf,.slice a5 nb c5',.slice a6 nb c6,.slice a7 nh c7]),
      fI (.bool vr),
      fI (.bool vr)] Wr rfl Wr (fun x=>yH) ?_ ?_
     ·refine⟨?_,?_,?_,?_,?_,?_,?_,?_,?_,trivial⟩ <;> intro x w2 hkw b hd
      ·exact ze
      ·have d0:x 0=_:=hd 0 Wr
       exact ze
      ·have d1:x 1=_:=hd 1 Wr
       exact ze
      ·have d2:x 2=_:=hd 2 Wr
       have h7:=Je.o.kept0 hkw
       refine yK (by simp only [Nat.reduceAdd,Nat.zero_add];revert d2;generalize x 2=vv;rintro rfl;rfl) (.tmp 5) Wk h7 Gh.o Wk ?_
       exact ze
      ·have d2:x 2=_:=hd 2 Wr
       have y0:=hkw.cell b0 Wz
       have y1:=hkw.cell b1 Wz
       have y2:=hkw.cell b2 Wz
       have y3:=hkw.cell b3 Wz
       have y4:=hkw.cell b4 Wz
       have y5:=hkw.cell b5 Wz
       exact ze
      ·have d2:x 2=_:=hd 2 Wr
       have d4:x 4=_:=hd 4 Wr
       have d2:x 2=_:=hd 2 Wr
       have d4:x 4=_:=hd 4 Wr
       have CX:=CB6.o _ hkw
       go_wp2_with (go_at_call 40;refine CX.mono ?_;rintro e w9 ⟨⟨q9,d9,rfl,hb9⟩,hk9⟩;have Jf:=qI hb9;have Jg:=qI hk9;clear hb9 hk9)
       exact⟨⟨q9,d9,rfl,Jf.o⟩,Jg.o⟩
      ·have d2:x 2=_:=hd 2 Wr
       have y0:=hkw.cell s0 Wz
       have y1:=hkw.cell s1 Wz
       have y2:=hkw.cell s2 Wz
       have y3:=hkw.cell s3 Wz
       exact ze
      ·have d2:x 2=_:=hd 2 Wr
       have d3:x 3=_:=hd 3 Wr
       have d6:x 6=_:=hd 6 Wr
       have d2:x 2=_:=hd 2 Wr
       have d3:x 3=_:=hd 3 Wr
       obtain⟨q9,e9,d5,hb9⟩:=hd 5 Wr
       have d6:x 6=_:=hd 6 Wr
       have CX:=CV.o _ hkw q9 e9 hb9
       clear hb9
       go_wp2_with (go_at_call 102;refine CX.mh ?_;rintro e w5 rfl Ga)
       exact⟨rfl,Ga.o⟩
      ·have d2:x 2=_:=hd 2 Wr
       have d7:x 7=_:=hd 7 Wr
       exact ze
     ·intro x w18 hkw b18 hd hwin
      have d8:x 8=_:=hd 8 Wo
      have Gq:=qI hkw
      clear hd hwin hkw
      change wpList _ _ _ [_] _ _
      go_wp2_with fail
      go_ret
      exact⟨by rw [HV.o];exact congrArg Ending.returned d8,Gd.o.then (Gb.o.then Gq.o)⟩
    ·have CD2:Hid (Calls Tryz.prog 101 #[.agg (ye k),.slice ua b.length uc] w3 fun e w'=>(∃ z:Int,z≠0∧e = .returned (.tuple #[.agg #[.int .i64 0,.slice none 0 0,.slice none 0 0,.slice none 0 0],.int .i64 z]))∧zb [] w3 w'):=qI (CD.mono (fun e w' h=>⟨by have h1:=h.1;unfold ju at h1;rw [if_neg hf] at h1;obtain⟨z,h2,-,-,h3⟩:=h1;exact⟨z,h2,h3⟩,h.2⟩))
     have Ge:Hid (res=false):=qI (by
      rw [HH.o];unfold Z5;simp only [Option.getD_some]
      cases h1:zI k with
      | false=>rfl
      | true=>
       cases h2:qZ k.bits.toNat k.height.toNat b with
       | false=>rfl
       | true=>exact absurd ⟨h1,h2⟩ hf)
     clear CD hf HH
     go_upto_region 5 with first
      | (refine zO Wk (.tmp 5) Wk Gv.o Gh.o Wk ?_)
      | (go_at_call 101;refine CD2.o.mono ?_;rintro e w5 ⟨⟨z,hz,rfl⟩,hk5⟩;obtain⟨z1,z2⟩:=yF hz;have Ga:=qI (Gp.o.then hk5);clear hk5 hz)
     obtain⟨W6,Gi⟩:∃ W6,Hid (W6=w5.alloc (.cells #[.int .i64 0,.slice none 0 0,.slice none 0 0,.slice none 0 0] 82)):=⟨_,qI rfl⟩
     have Gj:Hid (zb [] w5 W6):=qI (kA1 Gi.o)
     rw [← Gi.o]
     have Gb:Hid (zb [] W1 W6):=qI (Ga.o.then Gj.o)
     clear c0 c1 c2 c3 c4 c5 hdm
     go_wp2
     refine zK (n:=61) 9 [fI (.int .i64 z),
      fF,
      fF,
      fU,
      fU,
      fU,
      fU,
      fU,
      fF] Wr rfl Wr (fun x=>yH) ?_ ?_
     ·refine⟨?_,?_,?_,?_,?_,?_,?_,?_,?_,trivial⟩ <;> intro x w2 hkw b hd
      ·exact ze
      ·have d0:x 0=_:=hd 0 Wr
       exact ze
      ·have d1:x 1=_:=hd 1 Wr
       exact ze
      ·have d2:x 2=_:=hd 2 Wr
       exact ze
      ·have d2:x 2=_:=hd 2 Wr
       exact ze
      ·have d2:x 2=_:=hd 2 Wr
       have d4:x 4=_:=hd 4 Wr
       exact ze
      ·have d2:x 2=_:=hd 2 Wr
       exact ze
      ·have d2:x 2=_:=hd 2 Wr
       have d3:x 3=_:=hd 3 Wr
       have d5:x 5=_:=hd 5 Wr
       have d6:x 6=_:=hd 6 Wr
       exact ze
      ·have d2:x 2=_:=hd 2 Wr
       have d7:x 7=_:=hd 7 Wr
       exact ze
     ·intro x w18 hkw b18 hd hwin
      have d8:x 8=_:=hd 8 Wo
      have Gq:=qI hkw
      clear hd hwin hkw
      change wpList _ _ _ [_] _ _
      go_wp2_with fail
      go_ret
      exact⟨by rw [Ge.o];exact congrArg Ending.returned d8,Gd.o.then (Gb.o.then Gq.o)⟩
end Go.Proofs.YtibnfbglanpoiaaGreatDoor

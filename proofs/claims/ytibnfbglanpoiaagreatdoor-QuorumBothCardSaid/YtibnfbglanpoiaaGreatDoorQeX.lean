/- Parts of one proof, merged: XEA XGP. -/
import Derived.Test.YtibnfbglanpoiaaGreatDoorQeW
set_option linter.all false
set_option maxHeartbeats 12800000
set_option maxRecDepth 100000
namespace Go.Proofs.YtibnfbglanpoiaaGreatDoor
open Go.Proofs.Tryz
open Go.RowKit
attribute [local go_sem] Oper.semAt_some
theorem incomingR {n:Nat}{v:V n}{S:Nat→Prop}{w:World}{cs:List Value}(h:bm n BB S w cs v) :
  (∀ w1,zb [] w w1→Calls Tryz.prog 34 #[.agg cs.toArray] w1 fun e w'=>e = .returned (.bool true)∧zb [] w1 w') ∨
  ((∀ w1,zb [] w w1→Calls Tryz.prog 34 #[.agg cs.toArray] w1 fun e w'=>e = .returned (.bool false)∧zb [] w1 w') ∧
   ∃ v':V 21,Rep 21 S w cs v'∧yA 21 v'):=by
 have hl:∀ {d:Nat}{u:V d}{b:Bool},bm d BB S w cs u→decide (6000<zG d 0 u)=b→∀ w1,zb [] w w1→Calls Tryz.prog 34 #[.agg cs.toArray] w1 fun e w'=>e = .returned (.bool b)∧zb [] w1 w':=fun hu hb w1 k=>by
  have h9:=refLarge_any (hu.1.kept0 k) hu.2
  rw [hb] at h9
  exact h9
 by_cases hd:zE n v≤21
 ·obtain⟨u,hu⟩:=bm.fit n 21 h hd
  by_cases h6:zG 21 0 u≤6000
  ·exact .inr ⟨hl hu (decide_eq_false Ws),u,hu.1,small_of h6⟩
  ·exact .inl (hl hu (decide_eq_true Ws))
 ·refine .inl (hl h (decide_eq_true ?_))
  rcases Nat.lt_or_ge 6000 (zG n 0 v) with h1 | h1
  ·exact h1
  ·exfalso
   rcases (ZH n 0 v h1).2.2 with rfl | h2
   ·exact nomatch v
   ·omega
def ZQ (P:Prop) (w:World) (x:Value):Prop:=
 (∀ w1,zb [] w w1→Calls Tryz.prog 34 #[x] w1 fun e w'=>e = .returned (.bool true)∧zb [] w1 w')∨((∀ w1,zb [] w w1→Calls Tryz.prog 34 #[x] w1 fun e w'=>e = .returned (.bool false)∧zb [] w1 w')∧P)
theorem ZQ.kept0 {P:Prop}{w w':World}{x:Value}(h:ZQ P w x) (k:zb [] w w'):ZQ P w' x:=by
 rcases h with h | ⟨h,hp⟩
 ·exact .inl fun w1 h1=>h w1 (k.then h1)
 ·exact .inr ⟨fun w1 h1=>h w1 (k.then h1),hp⟩
theorem JM {P:Prop}{w:World}{kd nm:Int}{st:ByteArray}{p1 p2:Option Addr}{i1 d1 i2 d2:Nat}(h:ZQ P w (.agg #[.int .i64 kd,.int .i64 nm,.string st,.slice p1 i1 d1,.slice p2 i2 d2])) {a:Option Addr}{c:Nat}{l:List yr}(hr:q8 w (.slice a l.length c) l) (hz:∀ r,r∈l→r.small) (hl:l.length≤140737488355328) :
  Calls Tryz.prog 14 #[.agg #[.int .i64 kd,.int .i64 nm,.string st,.slice p1 i1 d1,.slice p2 i2 d2,.slice a l.length c]] w fun e w'=>(∃ b,e = .returned (.bool b)∧(b=false→l.length≤50∧P))∧zb [] w w':=by
 obtain⟨W1,Ge⟩:∃ W1,Hid (W1=w.alloc (.cells #[.int .i64 kd,.int .i64 nm,.string st,.slice p1 i1 d1,.slice p2 i2 d2,.slice a l.length c] 28)):=⟨_,qI rfl⟩
 have Ga:Hid (zb [] w W1):=qI (kA1 Ge.o)
 have Gb:Hid (W1.heap[w.heap.size]? = some (.cells #[.int .i64 kd,.int .i64 nm,.string st,.slice p1 i1 d1,.slice p2 i2 d2,.slice a l.length c] 28 (0,0))):=qI (by rw [Ge.o];exact zd rfl)
 have Gv:=qI h
 have Gw:Hid (∀ i,i<l.length→∃ g o s1 s2,a=some ⟨g,o,none⟩∧W1.cell? ⟨g,o+i*2,none⟩=some (.string s1)∧W1.cell? ⟨g,o+i*2+1,none⟩=some (.string s2)∧s1.size≤140737488355328∧s2.size≤140737488355328):=qI (fun i hi=>by
  obtain⟨g,o,h1,-,-,h2⟩:=(hr.kept0 Ga.o).cells Ws
  exact⟨g,o,l[i].id,l[i].sig,h1,h2 i hi 0 _ rfl,h2 i hi 1 _ rfl,hz _ (List.getElem_mem _)⟩)
 have hmI:(l.length:Int)≤140737488355328:=Ws
 clear h hr hz hl
 generalize hm:l.length=m at Ge Gb Gw hmI ⊢
 have HM:=qI hm
 clear hm
 obtain⟨c0,c1,c2,c3,c4,c5⟩:=xT Gb.o
 go_enter func14,ntmps14
 go_upto_region 1 with fail
 refine yq Ge.o ?_
 go_wp2_with fail
 go_loopw [3,4] (fun z i wr=>∃ (k:Nat) (zn:Nat),z = .int .i64 zn∧i = .int .i64 k∧k≤60∧zn≤k*281474976710656∧zb [] W1 wr) (fun _ i _=>60-(intOf i).toNat)
 case atStart=>exact⟨0,0,rfl,rfl,Nat.zero_le _,Nat.zero_le _,Wd⟩
 case round=>
  obtain⟨k,zn,rfl,rfl,hk,hzn,hkw⟩:=hrel
  have Gc:=qI hkw
  have HK:=qI hk
  have Gm:=qI hzn
  have y0:=hkw.cell c0 Wz
  have y1:=hkw.cell c1 Wz
  have y2:=hkw.cell c2 Wz
  have y3:=hkw.cell c3 Wz
  have y4:=hkw.cell c4 Wz
  have y5:=hkw.cell c5 Wz
  clear hkw hzn
  by_cases hlt:k<m
  ·by_cases h60:k<60
   ·obtain⟨g,o,s1,s2,rfl,e0,e1,hsm⟩:=Gw.o k hlt
    have hltI:(k:Int)<m:=Ws
    have h60I:(k:Int)<60:=Ws
    have Js:=qI hlt
    have H60:=qI h60
    have Je:=qI (Gc.o.cell e0 Wz)
    have Jf:=qI (Gc.o.cell e1 Wz)
    have Gx:=qI hsm
    clear e0 e1 hsm hlt h60 hk
    obtain⟨q1,hq1⟩:∃ q1:Nat,q1=s1.size/10:=⟨_,rfl⟩
    obtain⟨q2,hq2⟩:∃ q2:Nat,q2=s2.size/10:=⟨_,rfl⟩
    have Jg:Hid (((s1.size:Nat):Int)/10=q1):=qI Ws
    have Jh:Hid (((s2.size:Nat):Int)/10=q2):=qI Ws
    have HB:Hid (q1≤140737488355328∧q2≤140737488355328):=qI (by have h1:=Gx.o.1;have h2:=Gx.o.2;omega)
    have Ji:Hid (wrap64 (q1:Int)=q1):=qI (by have:=HB.o;unfold wrap64;omega)
    have Jj:Hid (wrap64 (q2:Int)=q2):=qI (by have:=HB.o;unfold wrap64;omega)
    have Ge:Hid (wrap64 ((zn:Int)+q1)=(zn:Int)+q1):=qI (by have:=HB.o;have:=Gm.o;have:=H60.o;unfold wrap64;omega)
    have Jk:Hid (wrap64 ((zn:Int)+q1+q2)=(zn:Int)+q1+q2):=qI (by have:=HB.o;have:=Gm.o;have:=H60.o;unfold wrap64;omega)
    clear hq1 hq2
    go_upto_region 5 with fail
    refine vZ (n:=48) 19 [fI (.int .i64 zn),
     fI (.pointer (some ⟨w.heap.size,5,none⟩)),
     fI (.slice (some ⟨g,o,none⟩) m c),
     fI (.int .i64 k),
     fI (.pointer (some ⟨g,o+k*2,none⟩)),
     fI (.pointer (some ⟨g,o+k*2,none⟩)),
     fI (.string s1),
     fI (.int .i64 s1.size),
     fI (.int .i64 q1),
     fI (.int .i64 ((zn:Int)+q1)),
     fI (.pointer (some ⟨w.heap.size,5,none⟩)),
     fI (.slice (some ⟨g,o,none⟩) m c),
     fI (.int .i64 k),
     fI (.pointer (some ⟨g,o+k*2,none⟩)),
     fI (.pointer (some ⟨g,o+k*2+1,none⟩)),
     fI (.string s2),
     fI (.int .i64 s2.size),
     fI (.int .i64 q2),
     fI (.int .i64 ((zn:Int)+q1+q2))] Wr rfl Wr (fun x=>yH) (fun x hx=>by rw [show x 19 = .int .i64 zn from hx 19 Wo Wo]) ?_ ?_
    ·refine⟨?_,?_,?_,?_,?_,?_,?_,?_,?_,?_,?_,?_,?_,?_,?_,?_,?_,?_,?_,trivial⟩ <;> intro x w2 hkw b hd
     ·exact ze
     ·exact ze
     ·have d1:x 1=_:=hd 1 Wr
      have y0:=hkw.cell y5 Wz
      exact ze
     ·exact ze
     ·have d2:x 2=_:=hd 2 Wr
      have d3:x 3=_:=hd 3 Wr
      have h1:=hltI
      exact ze
     ·have d4:x 4=_:=hd 4 Wr
      exact ze
     ·have d5:x 5=_:=hd 5 Wr
      have y0:=hkw.cell Je.o Wz
      exact ze
     ·have d6:x 6=_:=hd 6 Wr
      exact ze
     ·have d7:x 7=_:=hd 7 Wr
      have h1:=Jg.o
      have h2:=Ji.o
      exact ze
     ·have d0:x 0=_:=hd 0 Wr
      have d8:x 8=_:=hd 8 Wr
      have h1:=Ge.o
      exact ze
     ·exact ze
     ·have d10:x 10=_:=hd 10 Wr
      have y0:=hkw.cell y5 Wz
      exact ze
     ·exact ze
     ·have d11:x 11=_:=hd 11 Wr
      have d12:x 12=_:=hd 12 Wr
      have h1:=hltI
      exact ze
     ·have d13:x 13=_:=hd 13 Wr
      exact ze
     ·have d14:x 14=_:=hd 14 Wr
      have y0:=hkw.cell Jf.o Wz
      exact ze
     ·have d15:x 15=_:=hd 15 Wr
      exact ze
     ·have d16:x 16=_:=hd 16 Wr
      have h1:=Jh.o
      have h2:=Jj.o
      exact ze
     ·have d9:x 9=_:=hd 9 Wr
      have d17:x 17=_:=hd 17 Wr
      have h1:=Jk.o
      exact ze
    ·intro x w7 hkw b7 hd hwin
     have d18:x 18=_:=hd 18 Wo
     have Gn:=qI hkw
     clear hd hwin hkw
     change wpList _ _ _ [_] _ _
     go_wp2_with fail
     case roundEnd=>exact⟨⟨k+1,zn+q1+q2,by go_num,by go_num,by have:=H60.o;omega,by have:=HB.o;have:=Gm.o;omega,Gc.o.then Gn.o⟩,by have:=H60.o;simp [intOf];omega⟩
   ·obtain rfl:k=60:=by omega
    have hltI:(60:Int)<m:=Ws
    have h50:(50:Int)<m:=Ws
    clear h60 hlt
    rcases Gv.o with hT | ⟨hF,-⟩
    ·go_wp2_with (go_at_call 34;refine (hT _ (Ga.o.then Gc.o)).mh ?_;rintro e w3 rfl Gf)
     go_ret
     exact⟨⟨true,rfl,fun h=>nomatch h⟩,Ga.o.then (Gc.o.then Gf.o)⟩
    ·go_wp2_with (go_at_call 34;refine (hF _ (Ga.o.then Gc.o)).mono ?_;rintro e w3 ⟨rfl,hk3⟩;have Gf:=qI hk3;have z5:=hk3.cell y5 Wz;clear hk3)
     go_ret
     exact⟨⟨true,rfl,fun h=>nomatch h⟩,Ga.o.then (Gc.o.then Gf.o)⟩
  ·have hgeI:(m:Int)≤k:=by omega
   clear hlt
   rcases Gv.o with hT | ⟨hF,hv⟩
   ·go_wp2_with (go_at_call 34;refine (hT _ (Ga.o.then Gc.o)).mh ?_;rintro e w3 rfl Gf)
    go_ret
    exact⟨⟨true,rfl,fun h=>nomatch h⟩,Ga.o.then (Gc.o.then Gf.o)⟩
   ·have HF:=qI hF
    have HV:=qI hv
    clear hF hv
    by_cases h50:50<m
    ·have h50I:(50:Int)<m:=by omega
     clear h50
     go_wp2_with (go_at_call 34;refine (HF.o _ (Ga.o.then Gc.o)).mono ?_;rintro e w3 ⟨rfl,hk3⟩;have Gf:=qI hk3;have z5:=hk3.cell y5 Wz;clear hk3)
     go_ret
     exact⟨⟨true,rfl,fun h=>nomatch h⟩,Ga.o.then (Gc.o.then Gf.o)⟩
    ·have h50I:(m:Int)≤50:=by omega
     have H50:Hid (m≤50):=qI Ws
     obtain⟨b,hb⟩:∃ b,decide ((20000:Int)<zn)=b:=⟨_,rfl⟩
     clear h50
     cases b
     ·have hzI:(zn:Int)≤20000:=by have:=of_decide_eq_false hb;omega
      clear hb
      go_wp2_with (go_at_call 34;refine (HF.o _ (Ga.o.then Gc.o)).mono ?_;rintro e w3 ⟨rfl,hk3⟩;have Gf:=qI hk3;have z5:=hk3.cell y5 Wz;clear hk3)
      go_ret
      exact⟨⟨_,rfl,fun _=>⟨H50.o,HV.o⟩⟩,Ga.o.then (Gc.o.then Gf.o)⟩
     ·have hzI:(20000:Int)<zn:=of_decide_eq_true hb
      clear hb
      go_wp2_with (go_at_call 34;refine (HF.o _ (Ga.o.then Gc.o)).mono ?_;rintro e w3 ⟨rfl,hk3⟩;have Gf:=qI hk3;have z5:=hk3.cell y5 Wz;clear hk3)
      go_ret
      exact⟨⟨true,rfl,fun h=>nomatch h⟩,Ga.o.then (Gc.o.then Gf.o)⟩
theorem QX {P:Prop}{w:World}{kd nm:Int}{st:ByteArray}{p1 p2:Option Addr}{i1 d1 i2 d2:Nat}(h:ZQ P w (.agg #[.int .i64 kd,.int .i64 nm,.string st,.slice p1 i1 d1,.slice p2 i2 d2])) {a:Option Addr}{c:Nat}{l:List yr}(hr:q8 w (.slice a l.length c) l) (hz:∀ r,r∈l→r.small) (hl:l.length≤140737488355328) (ra:Option Addr) (rn rc:Nat) (hrn:rn≤140737488355328) (th:Int) (a2:Option Addr) (kn c2:Nat) (hkn:kn≤140737488355328) :
  Calls Tryz.prog 7 #[.agg #[.int .i64 kd,.int .i64 nm,.string st,.slice p1 i1 d1,.slice p2 i2 d2,.slice a l.length c],.agg #[.slice ra rn rc,.int .i64 th],.slice a2 kn c2] w fun e w'=>(∃ b,e = .returned (.bool b)∧(b=false→(l.length≤50∧P)∧rn≤30∧kn≤30))∧zb [] w w':=by
 obtain⟨W1,Ge⟩:∃ W1,Hid (W1=(w.alloc (.cells #[.int .i64 kd,.int .i64 nm,.string st,.slice p1 i1 d1,.slice p2 i2 d2,.slice a l.length c] 28)).alloc (.cells #[.slice ra rn rc,.int .i64 th] 31)):=⟨_,qI rfl⟩
 have Ga:Hid (zb [] w W1):=qI (kA2 Ge.o)
 have Gb:Hid (W1.heap[w.heap.size]? = some (.cells #[.int .i64 kd,.int .i64 nm,.string st,.slice p1 i1 d1,.slice p2 i2 d2,.slice a l.length c] 28 (0,0))):=qI (by rw [Ge.o];exact ((zb.refl [] _).alloc _).heap (zd rfl) Wz)
 have Gp:Hid (W1.heap[w.heap.size+1]? = some (.cells #[.slice ra rn rc,.int .i64 th] 31 (0,0))):=qI (by rw [Ge.o];exact zd Wz)
 have CL:=qI (JM (h.kept0 Ga.o) (hr.kept0 Ga.o) hz hl)
 have hrI:(rn:Int)≤140737488355328:=Ws
 have hkI:(kn:Int)≤140737488355328:=Ws
 clear h hr hz hl hrn hkn
 generalize l.length=m at Ge Gb CL ⊢
 obtain⟨c0,c1,c2',c3,c4,c5⟩:=xT Gb.o
 have r0:=za (o:=0) Gp.o rfl
 obtain⟨b30,hb30⟩:∃ b,decide ((30:Int)<rn)=b:=⟨_,rfl⟩
 go_enter func7,ntmps7
 go_upto_region 1 with fail
 refine yq Ge.o ?_
 cases b30 with
 | false=>
  have h30:(rn:Int)≤30:=by have:=of_decide_eq_false hb30;omega
  have H30:=qI h30
  clear hb30
  go_wp2_with (go_at_call 14;refine CL.o.mono ?_;rintro e w2 ⟨⟨b,rfl,hb⟩,hk2⟩;have HB:=qI hb;have Gl:=qI hk2;have z0:=hk2.cell r0 Wz;clear hk2 hb;cases b)
  ·go_ret
   exact⟨⟨_,rfl,fun hb=>⟨HB.o (by first | rfl | trivial),by have:=H30.o;omega,by have h9:=hb;simp only [Bool.or_eq_false_iff,decide_eq_false_iff_not] at h9;omega⟩⟩,Ga.o.then Gl.o⟩
  ·go_ret
   exact⟨⟨true,rfl,fun h=>nomatch h⟩,Ga.o.then Gl.o⟩
 | true=>
  have h30:(30:Int)<rn:=of_decide_eq_true hb30
  clear hb30
  go_wp2_with (go_at_call 14;refine CL.o.mono ?_;rintro e w2 ⟨⟨b,rfl,hb⟩,hk2⟩;have HB:=qI hb;have Gl:=qI hk2;have z0:=hk2.cell r0 Wz;clear hk2 hb;cases b)
  all_goals
   go_ret
   exact⟨⟨true,rfl,fun h=>nomatch h⟩,Ga.o.then Gl.o⟩
def vT (k:zY):V 3:=(Zx [(⟨#[107,101,121,116,121,112,101]⟩,(qY ⟨#[108,97,109,112,111,114,116,45,109,101,114,107,108,101]⟩:VS (V 1))),(⟨#[107,101,121,118,97,108]⟩,j7 k),(⟨#[115,99,104,101,109,101]⟩,qY ⟨#[115,104,97,50,53,54]⟩)]:VS (V 2))
def newRFact (n:Nat) (v:V n):kf (zb []):=⟨fun u b w=>∃ k m s p i c q j d,u = .agg #[.int .i64 k,.int .i64 m,.string s,.slice p i c,.slice q j d]∧Rep n (fun g=>b.1≤g∧g<b.2) w [.int .i64 k,.int .i64 m,.string s,.slice p i c,.slice q j d] v,
 fun _ _ _ _ ⟨k,m,s,p,i,c,q,j,d,h1,h2⟩ kk=>⟨k,m,s,p,i,c,q,j,d,h1,h2.kept0 kk⟩⟩
def ZU (w w':World) (e:Ending) (k:zY):Prop:=if zI k=true then NewR 3 (fun g=>w.heap.size≤g) w' e (vT k) else e = .returned Z4
theorem Q8 (k:zY) (hb:qX k.bits) (hr:k.root.length=32) (w:World):Calls Tryz.prog 50 #[.agg (ye k)] w fun e w'=>ZU w w' e k∧zb [] w w':=by
 obtain⟨W0,Gi⟩:∃ W0,Hid (W0=(w.alloc (.cells (ye k) 47)).alloc (.cells #[.int .i64 0,.int .i64 0,.string ⟨#[]⟩,.slice none 0 0,.slice none 0 0] 25)):=⟨_,qI rfl⟩
 have Gy:Hid (zb [] w W0):=qI (kA2 Gi.o)
 have HA:Hid (yw W0 w.heap.size k):=qI (by rw [Gi.o];exact ((zb.refl [] _).alloc _).heap (zd rfl) Wz)
 have Gz:Hid (W0.heap[w.heap.size+1]? = some (.cells #[.int .i64 0,.int .i64 0,.string ⟨#[]⟩,.slice none 0 0,.slice none 0 0] 25 (0,0))):=qI (by rw [Gi.o];exact zd Wz)
 have Ja:Hid (W0.heap.size=w.heap.size+2):=qI (by rw [Gi.o];simp)
 have CM:=qI (jk k hb W0)
 have Gj:=qI hr
 clear hb hr
 by_cases hm:zI k=true
 rotate_left
 ·have hm2:zI k=false:=by simpa using hm
  rw [hm2] at CM
  have Gq:Hid (∀ w' e,ZU w w' e k=(e = .returned Z4)):=qI (fun w' e=>by unfold ZU;rw [if_neg hm])
  clear hm hm2
  go_enter func50,ntmps50
  go_upto_region 1 with fail
  rw [← Gi.o]
  go_wp2_with first
   | (refine zO Wk (.tmp 1) Wk HA.o Gj.o Wk ?_)
   | (go_at_call 46;refine CM.o.mono ?_;rintro e w1 ⟨rfl,hk1⟩;have Ga:=qI hk1;have Gr:=qI (hk1.heap Gz.o Wz);obtain⟨r0,r1,r2,r3,r4⟩:=jt Gr.o;have z:∀ j,w1.frozen? ⟨w.heap.size+1,j,none⟩=false:=fun j=>zh Gr.o;clear hk1)
  change bodyPost _ _ _ _ _ (bp w1 (w.heap.size+1) 0 0 ⟨#[]⟩ (.slice none 0 0) (.slice none 0 0))
  have Gg:=ja w1 (w.heap.size+1) 0 0 ⟨#[]⟩ (.slice none 0 0) (.slice none 0 0)
  obtain⟨y0,y1,y2,y3,y4⟩:=jt (vP Gr.o 0 0 ⟨#[]⟩ (.slice none 0 0) (.slice none 0 0))
  revert Gg y0 y1 y2 y3 y4
  generalize bp w1 (w.heap.size+1) 0 0 ⟨#[]⟩ (.slice none 0 0) (.slice none 0 0)=WF
  intro Gg y0 y1 y2 y3 y4
  refine bodyPost_ret (v:=Z4) (by simp [results,results50,go_sem,y0,y1,y2,y3,y4,Z4]) rfl ?_
  rw [Gq.o]
  exact⟨rfl,(Gy.o.then Ga.o).trans Gg (by intro i hi;simp at hi;subst hi;exact .inr Ws)⟩
 have Gq:Hid (∀ w' e,ZU w w' e k=NewR 3 (fun g=>w.heap.size≤g) w' e (vT k)):=qI (fun w' e=>by unfold ZU;rw [if_pos hm])
 have Jb:Hid (qX k.bits∧qX k.height):=qI (may_wf hm)
 rw [hm] at CM
 obtain⟨hs,Jc⟩:∃ hs,Hid (hs=qp k.root):=⟨_,qI rfl⟩
 clear hm
 go_enter func50,ntmps50
 go_upto_region 1 with fail
 rw [← Gi.o]
 go_upto_region 3 with first
  | (refine zO Wk (.tmp 1) Wk HA.o Gj.o Wk ?_)
  | (go_at_call 46;refine CM.o.mh ?_;rintro e w1 rfl Ga)
 have Jl:Hid (∀ w2:World,zb [] w1 w2→Calls Tryz.prog 51 #[.slice (some ⟨w.heap.size,2,none⟩) 32 32] w2 fun e w'=>e = .returned (.string hs)∧zb [] w2 w'):=qI (fun w2 hk=>by
  have h1:=YZ (w:=w2) (a:=some ⟨w.heap.size,2,none⟩) (c:=32) (l:=k.root) (by rw [Gj.o];exact (HA.o.root Gj.o).kept0 (Ga.o.then hk)) (by rw [Gj.o];decide)
  rw [Gj.o,← Jc.o] at h1
  exact h1)
 refine zK (n:=27) 14 [xD [.string ⟨#[98,105,116,115]⟩,.string ⟨#[104,101,105,103,104,116]⟩,.string ⟨#[112,117,98,108,105,99]⟩] 3 1,
  fI (.pointer (some ⟨w.heap.size,0,none⟩)),
  fI (.int .i64 k.bits),
  fI (.agg #[.int .i64 3,.int .i64 k.bits,.string ⟨#[]⟩,.slice none 0 0,.slice none 0 0]),
  fI (.pointer (some ⟨w.heap.size,1,none⟩)),
  fI (.int .i64 k.height),
  fI (.agg #[.int .i64 3,.int .i64 k.height,.string ⟨#[]⟩,.slice none 0 0,.slice none 0 0]),
  fI (.pointer (some ⟨w.heap.size,2,none⟩)),
  fI (.slice (some ⟨w.heap.size,2,none⟩) 32 32),
  fI (.string hs),
  fI (.agg #[.int .i64 4,.int .i64 0,.string hs,.slice none 0 0,.slice none 0 0]),
  xD [.int .i64 3,.int .i64 k.bits,.string ⟨#[]⟩,.slice none 0 0,.slice none 0 0,.int .i64 3,.int .i64 k.height,.string ⟨#[]⟩,.slice none 0 0,.slice none 0 0,.int .i64 4,.int .i64 0,.string hs,.slice none 0 0,.slice none 0 0] 3 5,
  newRFact 2 (j7 k),
  boxFact 25] Wr rfl Wr (fun x=>yH) ?_ ?_
 ·refine⟨?_,?_,?_,?_,?_,?_,?_,?_,?_,?_,?_,?_,?_,?_,trivial⟩ <;> intro x w2 hkw b hd
  ·go_wp2_with fail
   exact⟨⟨w2.heap.size,rfl,Nat.le_refl _,Wz,zT w2 [.string ⟨#[98,105,116,115]⟩,.string ⟨#[104,101,105,103,104,116]⟩,.string ⟨#[112,117,98,108,105,99]⟩] 1 3 _ _ rfl rfl Wo⟩,Wd.alloc _⟩
  ·exact ze
  ·have d1:x 1=_:=hd 1 Wr
   have y0:=(HA.o.kept0 (Ga.o.then hkw)).c0
   exact ze
  ·have d2:x 2=_:=hd 2 Wr
   have CX:=JD k.bits w2
   go_wp2_with (go_at_call 92;refine CX.mh ?_;rintro e w5 rfl Gd)
   exact⟨rfl,Gd.o⟩
  ·exact ze
  ·have d4:x 4=_:=hd 4 Wr
   have y0:=(HA.o.kept0 (Ga.o.then hkw)).c1
   exact ze
  ·have d5:x 5=_:=hd 5 Wr
   have CX:=JD k.height w2
   go_wp2_with (go_at_call 92;refine CX.mh ?_;rintro e w5 rfl Gd)
   exact⟨rfl,Gd.o⟩
  ·exact ze
  ·have d7:x 7=_:=hd 7 Wr
   exact ze
  ·have d8:x 8=_:=hd 8 Wr
   have CX:=Jl.o _ hkw
   go_wp2_with (go_at_call 51;refine CX.mh ?_;rintro e w5 rfl Gd)
   exact⟨rfl,Gd.o⟩
  ·have d9:x 9=_:=hd 9 Wr
   have CX:=Zn hs w2
   go_wp2_with (go_at_call 93;refine CX.mh ?_;rintro e w5 rfl Gd)
   exact⟨rfl,Gd.o⟩
  ·have d3:x 3=_:=hd 3 Wr
   have d6:x 6=_:=hd 6 Wr
   have d10:x 10=_:=hd 10 Wr
   go_wp2_with fail
   exact⟨⟨w2.heap.size,rfl,Nat.le_refl _,Wz,zT w2 [.int .i64 3,.int .i64 k.bits,.string ⟨#[]⟩,.slice none 0 0,.slice none 0 0,.int .i64 3,.int .i64 k.height,.string ⟨#[]⟩,.slice none 0 0,.slice none 0 0,.int .i64 4,.int .i64 0,.string hs,.slice none 0 0,.slice none 0 0] 5 3 _ _ rfl rfl Wo⟩,Wd.alloc _⟩
  ·obtain⟨g0,d0,-,-,hs0⟩:=hd 0 Wr
   obtain⟨g5,d11,-,-,hs5⟩:=hd 11 Wr
   have CX:=KZ (n:=1) (N:=3) (ks:=[⟨#[98,105,116,115]⟩,⟨#[104,101,105,103,104,116]⟩,⟨#[112,117,98,108,105,99]⟩]) (lcs:=[[.int .i64 3,.int .i64 k.bits,.string ⟨#[]⟩,.slice none 0 0,.slice none 0 0],[.int .i64 3,.int .i64 k.height,.string ⟨#[]⟩,.slice none 0 0,.slice none 0 0],[.int .i64 4,.int .i64 0,.string hs,.slice none 0 0,.slice none 0 0]]) (vs:=[(YU k.bits:VS (V 0)),YU k.height,qY hs]) (S:=fun _=>False) hs0 hs5 (zH.cons (Kn (n:=0) _ _ _ Jb.o.1) (zH.cons (Kn (n:=0) _ _ _ Jb.o.2) (zH.cons (bB (n:=0) _ _ hs) (zH.nil _)))) rfl rfl Wo
   clear hs0 hs5
   go_wp2_with (go_at_call 91;refine CX.mono ?_;rintro e w5 ⟨⟨cs5,rfl,hr5⟩,hk5⟩;obtain⟨k3,m3,s3,p3,i3,c3,q3,j3,e3,rfl⟩:=hr5.conv;have Gs:=qI (hr5.mono (T:=fun g=>w2.heap.size≤g∧g<w5.heap.size) (fun g hg h=>by rcases h with h | h;exact h.elim;exact⟨h,hg⟩));have Gd:=qI hk5;clear hk5 hr5)
   exact⟨⟨_,_,_,_,_,_,_,_,_,rfl,by have h9:=Gs.o;rw [Jc.o] at h9;exact h9⟩,Gd.o⟩
  ·go_wp2_with fail
   exact⟨⟨w2.heap.size,Nat.le_refl _,Wz,rfl,zd rfl⟩,Wd.alloc _⟩
 intro x w3 hkw b hd hwin
 obtain⟨vk,vm,vs,vp,vi,vc,vq,vj,vd,d12,hrv⟩:=hd 12 Wo
 obtain⟨bx,hb1,hb2,d13,hbx⟩:=hd 13 Wo
 have Gt:=qI hwin
 have Gc:=qI hkw
 have Gp:=qI hrv
 have Gb:=qI hbx
 have Jd:Hid ((b 13).1≤bx∧bx<(b 13).2):=qI ⟨hb1,hb2⟩
 clear hd hwin hkw hrv hbx hb1 hb2
 change wpList _ _ _ [_] _ _
 go_upto_region 4 with (refine wpList_store5 Wk (.tmp 3) (.tmp 20) Wk (g:=bx) Gb.o d13 d12 ?_;intro w4 h hk;have HV:=qI h;have Gk:=qI hk;clear h hk;simp only [Act.put])
 have Jm:Hid (w1.heap.size≤bx∧bx<w3.heap.size):=qI (by have h1:=Gt.o.1 13 Wo;have h2:=Jd.o;omega)
 have Gh:Hid (zb [] w1 w4):=qI (Gc.o.trans Gk.o (by intro i hi;simp at hi;subst hi;exact .inr Jm.o.1))
 have Jn:Hid (W0.heap.size≤w4.heap.size):=qI (Ga.o.then Gh.o).size
 have Jo:Hid (Rep 2 (fun g=>W0.heap.size≤g) w4 [.int .i64 vk,.int .i64 vm,.string vs,.slice vp vi vc,.slice vq vj vd] (j7 k)):=qI (by
  have h1:=Gt.o.1 12 Wo
  have h2:=Gt.o.2 12 13 Wo Wo Wo
  have h3:=Jd.o
  have h4:=Ga.o.size
  exact (Gp.o.kept Gk.o (by intro i hi;simp at hi;subst hi;omega)).mono (fun g _ h=>by omega))
 obtain⟨b0,b1,b2,b3,b4⟩:=jt HV.o
 refine zK (n:=27) 6 [xD [.string ⟨#[107,101,121,116,121,112,101]⟩,.string ⟨#[107,101,121,118,97,108]⟩,.string ⟨#[115,99,104,101,109,101]⟩] 3 1,
  fI (.agg #[.int .i64 4,.int .i64 0,.string ⟨#[108,97,109,112,111,114,116,45,109,101,114,107,108,101]⟩,.slice none 0 0,.slice none 0 0]),
  fI (.agg #[.int .i64 vk,.int .i64 vm,.string vs,.slice vp vi vc,.slice vq vj vd]),
  fI (.agg #[.int .i64 4,.int .i64 0,.string ⟨#[115,104,97,50,53,54]⟩,.slice none 0 0,.slice none 0 0]),
  xD [.int .i64 4,.int .i64 0,.string ⟨#[108,97,109,112,111,114,116,45,109,101,114,107,108,101]⟩,.slice none 0 0,.slice none 0 0,.int .i64 vk,.int .i64 vm,.string vs,.slice vp vi vc,.slice vq vj vd,.int .i64 4,.int .i64 0,.string ⟨#[115,104,97,50,53,54]⟩,.slice none 0 0,.slice none 0 0] 3 5,
  repFact (fun g=>W0.heap.size≤g) 3 (vT k)] Wr rfl Wr (fun x=>yH) ?_ ?_
 ·refine⟨?_,?_,?_,?_,?_,?_,trivial⟩ <;> intro x w2 hkw b hd
  ·go_wp2_with fail
   exact⟨⟨w2.heap.size,rfl,Nat.le_refl _,Wz,zT w2 [.string ⟨#[107,101,121,116,121,112,101]⟩,.string ⟨#[107,101,121,118,97,108]⟩,.string ⟨#[115,99,104,101,109,101]⟩] 1 3 _ _ rfl rfl Wo⟩,Wd.alloc _⟩
  ·have CX:=Zn ⟨#[108,97,109,112,111,114,116,45,109,101,114,107,108,101]⟩ w2
   go_wp2_with (go_at_call 93;refine CX.mh ?_;rintro e w5 rfl Gd)
   exact⟨rfl,Gd.o⟩
  ·have y0:=hkw.cell b0 Wz
   have y1:=hkw.cell b1 Wz
   have y2:=hkw.cell b2 Wz
   have y3:=hkw.cell b3 Wz
   have y4:=hkw.cell b4 Wz
   exact ze
  ·have CX:=Zn ⟨#[115,104,97,50,53,54]⟩ w2
   go_wp2_with (go_at_call 93;refine CX.mh ?_;rintro e w5 rfl Gd)
   exact⟨rfl,Gd.o⟩
  ·have d1:x 1=_:=hd 1 Wr
   have d2:x 2=_:=hd 2 Wr
   have d3:x 3=_:=hd 3 Wr
   go_wp2_with fail
   exact⟨⟨w2.heap.size,rfl,Nat.le_refl _,Wz,zT w2 [.int .i64 4,.int .i64 0,.string ⟨#[108,97,109,112,111,114,116,45,109,101,114,107,108,101]⟩,.slice none 0 0,.slice none 0 0,.int .i64 vk,.int .i64 vm,.string vs,.slice vp vi vc,.slice vq vj vd,.int .i64 4,.int .i64 0,.string ⟨#[115,104,97,50,53,54]⟩,.slice none 0 0,.slice none 0 0] 5 3 _ _ rfl rfl Wo⟩,Wd.alloc _⟩
  ·obtain⟨g0,d0,-,-,hs0⟩:=hd 0 Wr
   obtain⟨g5,d4,-,-,hs5⟩:=hd 4 Wr
   have CX:=KZ (n:=2) (N:=3) (ks:=[⟨#[107,101,121,116,121,112,101]⟩,⟨#[107,101,121,118,97,108]⟩,⟨#[115,99,104,101,109,101]⟩]) (lcs:=[[.int .i64 4,.int .i64 0,.string ⟨#[108,97,109,112,111,114,116,45,109,101,114,107,108,101]⟩,.slice none 0 0,.slice none 0 0],[.int .i64 vk,.int .i64 vm,.string vs,.slice vp vi vc,.slice vq vj vd],[.int .i64 4,.int .i64 0,.string ⟨#[115,104,97,50,53,54]⟩,.slice none 0 0,.slice none 0 0]]) (vs:=[(qY ⟨#[108,97,109,112,111,114,116,45,109,101,114,107,108,101]⟩:VS (V 1)),j7 k,qY ⟨#[115,104,97,50,53,54]⟩]) (S:=fun g=>W0.heap.size≤g) hs0 hs5 (zH.cons (bB (n:=1) _ _ _) (zH.cons (Jo.o.kept0 hkw) (zH.cons (bB (n:=1) _ _ _) (zH.nil _)))) rfl rfl Wo
   clear hs0 hs5
   go_wp2_with (go_at_call 91;refine CX.mono ?_;rintro e w5 ⟨⟨cs5,rfl,hr5⟩,hk5⟩;obtain⟨k3,m3,s3,p3,i3,c3,q3,j3,e3,rfl⟩:=hr5.conv;have Gs:=qI (hr5.mono (T:=fun g=>W0.heap.size≤g) (fun g _ h=>by have:=Jn.o;have:=hkw.size;rcases h with h | h <;> omega));have Gd:=qI hk5;clear hk5 hr5)
   exact⟨⟨_,_,_,_,_,_,_,_,_,rfl,Gs.o⟩,Gd.o⟩
 intro x2 w7 hkw7 b7 hd7 hwin7
 obtain⟨k6,m6,s6,p6,i6,c6,q6,j6,e6,d5,hr6⟩:=hd7 5 Wo
 have Jp:=qI hr6
 have Jq:=qI hkw7
 have Gu:=qI (((Ga.o.then Gh.o).then hkw7).heap Gz.o Wz)
 clear hd7 hwin7 hkw7 hr6
 obtain⟨r0,r1,r2,r3,r4⟩:=jt Gu.o
 have z:∀ j,w7.frozen? ⟨w.heap.size+1,j,none⟩=false:=fun j=>zh Gu.o
 change wpList _ _ _ [_] _ _
 go_wp2_with fail
 change bodyPost _ _ _ _ _ (bp w7 (w.heap.size+1) k6 m6 s6 (.slice p6 i6 c6) (.slice q6 j6 e6))
 have Gg:=ja w7 (w.heap.size+1) k6 m6 s6 (.slice p6 i6 c6) (.slice q6 j6 e6)
 obtain⟨y0,y1,y2,y3,y4⟩:=jt (vP Gu.o k6 m6 s6 (.slice p6 i6 c6) (.slice q6 j6 e6))
 revert Gg y0 y1 y2 y3 y4
 generalize bp w7 (w.heap.size+1) k6 m6 s6 (.slice p6 i6 c6) (.slice q6 j6 e6)=WF
 intro Gg y0 y1 y2 y3 y4
 refine bodyPost_ret (v:=.agg #[.int .i64 k6,.int .i64 m6,.string s6,.slice p6 i6 c6,.slice q6 j6 e6]) (by simp [results,results50,go_sem,y0,y1,y2,y3,y4]) rfl ?_
 rw [Gq.o]
 have Jr:zb [] w WF:=(((Gy.o.then Ga.o).then Gh.o).then Jq.o).trans Gg (by intro i hi;simp at hi;subst hi;exact .inr Ws)
 exact⟨⟨_,rfl,(Jp.o.kept Gg (by intro i hi;simp at hi;subst hi;have:=Ja.o;omega)).mono (fun g _ h=>by have:=Ja.o;omega)⟩,Jr⟩
end Go.Proofs.YtibnfbglanpoiaaGreatDoor

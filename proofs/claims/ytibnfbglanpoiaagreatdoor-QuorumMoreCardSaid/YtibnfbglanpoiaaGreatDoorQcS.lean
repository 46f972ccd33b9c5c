/- Parts of one proof, merged: XEA XCO XCA XCB. -/
import Derived.Test.YtibnfbglanpoiaaGreatDoorQcR
import Derived.Test.YtibnfbglanpoiaaGreatDoorQcK
import Derived.RangeFuncNested
import Derived.RangeFuncBound
import Derived.RangeFuncCalls
import Derived.OrdersIn
import Derived.TacticsIn
import Derived.OwnWalkIn
import Derived.Test.YtibnfbglanpoiaaGreatDoorQcL
import Derived.Lib.AppendStr
set_option linter.all false
set_option maxHeartbeats 12800000
set_option maxRecDepth 10000
set_option linter.unusedVariables false
set_option linter.unusedSimpArgs false
set_option linter.unnecessarySimpa false
namespace Go.Proofs.YtibnfbglanpoiaaGreatDoor
open Go.Proofs.Tryz
open Go.RowKit
attribute [local go_sem] Oper.semAt_some
theorem incomingR {n:Nat}{v:V n}{S:Nat→Prop}{w:World}{cs:List Value}(h:vu n BB S w cs v) :
  (∀ w1,zb [] w w1→Calls Tryz.prog 34 #[.agg cs.toArray] w1 fun e w'=>e = .returned (.bool true)∧zb [] w1 w') ∨
  ((∀ w1,zb [] w w1→Calls Tryz.prog 34 #[.agg cs.toArray] w1 fun e w'=>e = .returned (.bool false)∧zb [] w1 w') ∧
   ∃ v':V 21,Rep 21 S w cs v'∧yk 21 v'):=by
 have hl:∀ {d:Nat}{u:V d}{b:Bool},vu d BB S w cs u→decide (6000 < zF d 0 u)=b→∀ w1,zb [] w w1→Calls Tryz.prog 34 #[.agg cs.toArray] w1 fun e w'=>e = .returned (.bool b)∧zb [] w1 w':=fun hu hb w1 k=>by
  have h9:=refLarge_any (hu.1.kept0 k) hu.2
  rw [hb] at h9
  exact h9
 by_cases hd:zy n v≤21
 ·obtain⟨u,hu⟩:=vu.fit n 21 h hd
  by_cases h6:zF 21 0 u≤6000
  ·exact .inr ⟨hl hu (decide_eq_false (by omega)),u,hu.1,small_of h6⟩
  ·exact .inl (hl hu (decide_eq_true (by omega)))
 ·refine .inl (hl h (decide_eq_true ?_))
  rcases Nat.lt_or_ge 6000 (zF n 0 v) with h1 | h1
  ·exact h1
  ·exfalso
   rcases (bG n 0 v h1).2.2 with rfl | h2
   ·exact nomatch v
   ·omega
def Zu (P:Prop) (w:World) (x:Value):Prop:=
 (∀ w1,zb [] w w1→Calls Tryz.prog 34 #[x] w1 fun e w'=>e = .returned (.bool true)∧zb [] w1 w')∨((∀ w1,zb [] w w1→Calls Tryz.prog 34 #[x] w1 fun e w'=>e = .returned (.bool false)∧zb [] w1 w')∧P)
theorem Zu.kept0 {P:Prop}{w w':World}{x:Value}(h:Zu P w x) (k:zb [] w w'):Zu P w' x:=by
 rcases h with h | ⟨h,hp⟩
 ·exact .inl fun w1 h1=>h w1 (k.then h1)
 ·exact .inr ⟨fun w1 h1=>h w1 (k.then h1),hp⟩
set_option maxRecDepth 100000 in
theorem KJ {P:Prop}{w:World}{kd nm:Int}{st:ByteArray}{p1 p2:Option Addr}{i1 d1 i2 d2:Nat}(h:Zu P w (.agg #[.int .i64 kd,.int .i64 nm,.string st,.slice p1 i1 d1,.slice p2 i2 d2])) {a:Option Addr}{c:Nat}{l:List yh}(hr:xZ w (.slice a l.length c) l) (hz:∀ r,r ∈ l→r.small) (hl:l.length≤140737488355328) :
  Calls Tryz.prog 14 #[.agg #[.int .i64 kd,.int .i64 nm,.string st,.slice p1 i1 d1,.slice p2 i2 d2,.slice a l.length c]] w fun e w'=>(∃ b,e = .returned (.bool b)∧(b=false→l.length≤50∧P))∧zb [] w w':=by
 obtain⟨W1,Gd⟩:∃ W1,Hid (W1=w.alloc (.cells #[.int .i64 kd,.int .i64 nm,.string st,.slice p1 i1 d1,.slice p2 i2 d2,.slice a l.length c] 28)):=⟨_,qI rfl⟩
 have Ga:Hid (zb [] w W1):=qI (by rw [Gd.o];exact (zb.refl _ w).alloc _)
 have Gb:Hid (W1.heap[w.heap.size]? = some (.cells #[.int .i64 kd,.int .i64 nm,.string st,.slice p1 i1 d1,.slice p2 i2 d2,.slice a l.length c] 28 (0,0))):=qI (by rw [Gd.o];exact zd rfl)
 have Gi:=qI h
 have Gj:Hid (∀ i,i < l.length→∃ g o s1 s2,a=some ⟨g,o,none⟩∧W1.cell? ⟨g,o + i * 2,none⟩=some (.string s1)∧W1.cell? ⟨g,o + i * 2 + 1,none⟩=some (.string s2)∧s1.size≤140737488355328∧s2.size≤140737488355328):=qI (fun i hi=>by
  obtain⟨g,o,h1,-,-,h2⟩:=(hr.kept0 Ga.o).cells (by omega)
  exact⟨g,o,l[i].id,l[i].sig,h1,h2 i hi 0 _ rfl,h2 i hi 1 _ rfl,hz _ (List.getElem_mem _)⟩)
 have hmI:(l.length:Int)≤140737488355328:=by omega
 clear h hr hz hl
 generalize hm:l.length=m at Gd Gb Gj hmI ⊢
 have HM:=qI hm
 clear hm
 have c0:=za (o:=0) Gb.o rfl
 have c1:=za (o:=1) Gb.o rfl
 have c2:=za (o:=2) Gb.o rfl
 have c3:=za (o:=3) Gb.o rfl
 have c4:=za (o:=4) Gb.o rfl
 have c5:=za (o:=5) Gb.o rfl
 go_enter func14,ntmps14
 go_upto_region 1 with fail
 change Code.wp _ _ _ _ (w.alloc (.cells #[.int .i64 kd,.int .i64 nm,.string st,.slice p1 i1 d1,.slice p2 i2 d2,.slice a m c] 28))
 rw [← Gd.o]
 go_wp2_with fail
 go_loopw [3,4] (fun z i wr=>∃ (k:Nat) (zn:Nat),z = .int .i64 zn∧i = .int .i64 k∧k≤60∧zn≤k * 281474976710656∧zb [] W1 wr) (fun _ i _=>60 - (intOf i).toNat)
 case atStart=>exact⟨0,0,rfl,rfl,Nat.zero_le _,Nat.zero_le _,zb.refl _ _⟩
 case round=>
  obtain⟨k,zn,rfl,rfl,hk,hzn,hkw⟩:=hrel
  have Gc:=qI hkw
  have HK:=qI hk
  have Gg:=qI hzn
  have y0:=hkw.cell c0 (by simp)
  have y1:=hkw.cell c1 (by simp)
  have y2:=hkw.cell c2 (by simp)
  have y3:=hkw.cell c3 (by simp)
  have y4:=hkw.cell c4 (by simp)
  have y5:=hkw.cell c5 (by simp)
  clear hkw hzn
  by_cases hlt:k < m
  ·by_cases h60:k < 60
   ·obtain⟨g,o,s1,s2,rfl,e0,e1,hsm⟩:=Gj.o k hlt
    have hltI:(k:Int) < m:=by omega
    have h60I:(k:Int) < 60:=by omega
    have Ja:=qI hlt
    have H60:=qI h60
    have Gn:=qI (Gc.o.cell e0 (by simp))
    have Gp:=qI (Gc.o.cell e1 (by simp))
    have Gk:=qI hsm
    clear e0 e1 hsm hlt h60 hk
    obtain⟨q1,hq1⟩:∃ q1:Nat,q1=s1.size / 10:=⟨_,rfl⟩
    obtain⟨q2,hq2⟩:∃ q2:Nat,q2=s2.size / 10:=⟨_,rfl⟩
    have Gq:Hid (((s1.size:Nat):Int) / 10=q1):=qI (by omega)
    have Gr:Hid (((s2.size:Nat):Int) / 10=q2):=qI (by omega)
    have HB:Hid (q1≤140737488355328∧q2≤140737488355328):=qI (by have h1:=Gk.o.1;have h2:=Gk.o.2;omega)
    have Gs:Hid (wrap64 (q1:Int)=q1):=qI (by have:=HB.o;unfold wrap64;omega)
    have Gt:Hid (wrap64 (q2:Int)=q2):=qI (by have:=HB.o;unfold wrap64;omega)
    have Gd:Hid (wrap64 ((zn:Int) + q1)=(zn:Int) + q1):=qI (by have:=HB.o;have:=Gg.o;have:=H60.o;unfold wrap64;omega)
    have Gu:Hid (wrap64 ((zn:Int) + q1 + q2)=(zn:Int) + q1 + q2):=qI (by have:=HB.o;have:=Gg.o;have:=H60.o;unfold wrap64;omega)
    clear hq1 hq2
    go_upto_region 5 with fail
    refine vb (n:=48) 19 [zg.is (.int .i64 zn),
     zg.is (.pointer (some ⟨w.heap.size,5,none⟩)),
     zg.is (.slice (some ⟨g,o,none⟩) m c),
     zg.is (.int .i64 k),
     zg.is (.pointer (some ⟨g,o + k * 2,none⟩)),
     zg.is (.pointer (some ⟨g,o + k * 2,none⟩)),
     zg.is (.string s1),
     zg.is (.int .i64 s1.size),
     zg.is (.int .i64 q1),
     zg.is (.int .i64 ((zn:Int) + q1)),
     zg.is (.pointer (some ⟨w.heap.size,5,none⟩)),
     zg.is (.slice (some ⟨g,o,none⟩) m c),
     zg.is (.int .i64 k),
     zg.is (.pointer (some ⟨g,o + k * 2,none⟩)),
     zg.is (.pointer (some ⟨g,o + k * 2 + 1,none⟩)),
     zg.is (.string s2),
     zg.is (.int .i64 s2.size),
     zg.is (.int .i64 q2),
     zg.is (.int .i64 ((zn:Int) + q1 + q2))] (by kernel_rfl) rfl (by kernel_rfl) (fun x=>by simp only [List.map,yM,Act.put,List.setIfInBounds_toArray,List.set_cons_zero,List.set_cons_succ];rfl) (fun x hx=>by rw [show x 19 = .int .i64 zn from hx 19 (by decide) (by decide)]) ?_ ?_
    ·refine⟨fun x w2 hkw b hd=>?_,fun x w2 hkw b hd=>?_,fun x w2 hkw b hd=>?_,fun x w2 hkw b hd=>?_,fun x w2 hkw b hd=>?_,fun x w2 hkw b hd=>?_,fun x w2 hkw b hd=>?_,fun x w2 hkw b hd=>?_,fun x w2 hkw b hd=>?_,fun x w2 hkw b hd=>?_,fun x w2 hkw b hd=>?_,fun x w2 hkw b hd=>?_,fun x w2 hkw b hd=>?_,fun x w2 hkw b hd=>?_,fun x w2 hkw b hd=>?_,fun x w2 hkw b hd=>?_,fun x w2 hkw b hd=>?_,fun x w2 hkw b hd=>?_,fun x w2 hkw b hd=>?_,trivial⟩
     ·go_wp2_with fail
      exact⟨rfl,zb.refl _ _⟩
     ·go_wp2_with fail
      exact⟨rfl,zb.refl _ _⟩
     ·have d1:x 1=_:=hd 1 (by kernel_rfl)
      have y0:=hkw.cell y5 (by simp)
      go_wp2_with fail
      exact⟨rfl,zb.refl _ _⟩
     ·go_wp2_with fail
      exact⟨rfl,zb.refl _ _⟩
     ·have d2:x 2=_:=hd 2 (by kernel_rfl)
      have d3:x 3=_:=hd 3 (by kernel_rfl)
      have h1:=hltI
      go_wp2_with fail
      exact⟨rfl,zb.refl _ _⟩
     ·have d4:x 4=_:=hd 4 (by kernel_rfl)
      go_wp2_with fail
      exact⟨rfl,zb.refl _ _⟩
     ·have d5:x 5=_:=hd 5 (by kernel_rfl)
      have y0:=hkw.cell Gn.o (by simp)
      go_wp2_with fail
      exact⟨rfl,zb.refl _ _⟩
     ·have d6:x 6=_:=hd 6 (by kernel_rfl)
      go_wp2_with fail
      exact⟨rfl,zb.refl _ _⟩
     ·have d7:x 7=_:=hd 7 (by kernel_rfl)
      have h1:=Gq.o
      have h2:=Gs.o
      go_wp2_with fail
      exact⟨rfl,zb.refl _ _⟩
     ·have d0:x 0=_:=hd 0 (by kernel_rfl)
      have d8:x 8=_:=hd 8 (by kernel_rfl)
      have h1:=Gd.o
      go_wp2_with fail
      exact⟨rfl,zb.refl _ _⟩
     ·go_wp2_with fail
      exact⟨rfl,zb.refl _ _⟩
     ·have d10:x 10=_:=hd 10 (by kernel_rfl)
      have y0:=hkw.cell y5 (by simp)
      go_wp2_with fail
      exact⟨rfl,zb.refl _ _⟩
     ·go_wp2_with fail
      exact⟨rfl,zb.refl _ _⟩
     ·have d11:x 11=_:=hd 11 (by kernel_rfl)
      have d12:x 12=_:=hd 12 (by kernel_rfl)
      have h1:=hltI
      go_wp2_with fail
      exact⟨rfl,zb.refl _ _⟩
     ·have d13:x 13=_:=hd 13 (by kernel_rfl)
      go_wp2_with fail
      exact⟨rfl,zb.refl _ _⟩
     ·have d14:x 14=_:=hd 14 (by kernel_rfl)
      have y0:=hkw.cell Gp.o (by simp)
      go_wp2_with fail
      exact⟨rfl,zb.refl _ _⟩
     ·have d15:x 15=_:=hd 15 (by kernel_rfl)
      go_wp2_with fail
      exact⟨rfl,zb.refl _ _⟩
     ·have d16:x 16=_:=hd 16 (by kernel_rfl)
      have h1:=Gr.o
      have h2:=Gt.o
      go_wp2_with fail
      exact⟨rfl,zb.refl _ _⟩
     ·have d9:x 9=_:=hd 9 (by kernel_rfl)
      have d17:x 17=_:=hd 17 (by kernel_rfl)
      have h1:=Gu.o
      go_wp2_with fail
      exact⟨rfl,zb.refl _ _⟩
    ·intro x w7 hkw b7 hd hwin
     have d18:x 18=_:=hd 18 (by decide)
     have Gh:=qI hkw
     clear hd hwin hkw
     change wpList _ _ _ [_] _ _
     go_wp2_with fail
     case roundEnd=>exact⟨⟨k + 1,zn + q1 + q2,by go_num,by go_num,by have:=H60.o;omega,by have:=HB.o;have:=Gg.o;omega,Gc.o.then Gh.o⟩,by have:=H60.o;simp [intOf];omega⟩
   ·obtain rfl:k=60:=by omega
    have hltI:(60:Int) < m:=by omega
    have h50:(50:Int) < m:=by omega
    clear h60 hlt
    rcases Gi.o with hT | ⟨hF,-⟩
    ·go_wp2_with (go_at_call 34;refine (hT _ (Ga.o.then Gc.o)).mono ?_;rintro e w3 ⟨rfl,hk3⟩;have Ge:=qI hk3;clear hk3)
     go_ret
     exact⟨⟨true,rfl,fun h=>nomatch h⟩,Ga.o.then (Gc.o.then Ge.o)⟩
    ·go_wp2_with (go_at_call 34;refine (hF _ (Ga.o.then Gc.o)).mono ?_;rintro e w3 ⟨rfl,hk3⟩;have Ge:=qI hk3;have z5:=hk3.cell y5 (by simp);clear hk3)
     go_ret
     exact⟨⟨true,rfl,fun h=>nomatch h⟩,Ga.o.then (Gc.o.then Ge.o)⟩
  ·have hgeI:(m:Int)≤k:=by omega
   clear hlt
   rcases Gi.o with hT | ⟨hF,hv⟩
   ·go_wp2_with (go_at_call 34;refine (hT _ (Ga.o.then Gc.o)).mono ?_;rintro e w3 ⟨rfl,hk3⟩;have Ge:=qI hk3;clear hk3)
    go_ret
    exact⟨⟨true,rfl,fun h=>nomatch h⟩,Ga.o.then (Gc.o.then Ge.o)⟩
   ·have HF:=qI hF
    have HV:=qI hv
    clear hF hv
    by_cases h50:50 < m
    ·have h50I:(50:Int) < m:=by omega
     clear h50
     go_wp2_with (go_at_call 34;refine (HF.o _ (Ga.o.then Gc.o)).mono ?_;rintro e w3 ⟨rfl,hk3⟩;have Ge:=qI hk3;have z5:=hk3.cell y5 (by simp);clear hk3)
     go_ret
     exact⟨⟨true,rfl,fun h=>nomatch h⟩,Ga.o.then (Gc.o.then Ge.o)⟩
    ·have h50I:(m:Int)≤50:=by omega
     have H50:Hid (m≤50):=qI (by omega)
     obtain⟨b,hb⟩:∃ b,decide ((20000:Int) < zn)=b:=⟨_,rfl⟩
     clear h50
     cases b
     ·have hzI:(zn:Int)≤20000:=by have:=of_decide_eq_false hb;omega
      clear hb
      go_wp2_with (go_at_call 34;refine (HF.o _ (Ga.o.then Gc.o)).mono ?_;rintro e w3 ⟨rfl,hk3⟩;have Ge:=qI hk3;have z5:=hk3.cell y5 (by simp);clear hk3)
      go_ret
      exact⟨⟨_,rfl,fun _=>⟨H50.o,HV.o⟩⟩,Ga.o.then (Gc.o.then Ge.o)⟩
     ·have hzI:(20000:Int) < zn:=of_decide_eq_true hb
      clear hb
      go_wp2_with (go_at_call 34;refine (HF.o _ (Ga.o.then Gc.o)).mono ?_;rintro e w3 ⟨rfl,hk3⟩;have Ge:=qI hk3;have z5:=hk3.cell y5 (by simp);clear hk3)
      go_ret
      exact⟨⟨true,rfl,fun h=>nomatch h⟩,Ga.o.then (Gc.o.then Ge.o)⟩
set_option maxRecDepth 100000 in
theorem large18_any {P:Prop}{w:World}{kd nm:Int}{st:ByteArray}{p1 p2:Option Addr}{i1 d1 i2 d2:Nat}(h:Zu P w (.agg #[.int .i64 kd,.int .i64 nm,.string st,.slice p1 i1 d1,.slice p2 i2 d2])) {a:Option Addr}{c:Nat}{l:List yh}(hr:xZ w (.slice a l.length c) l) (hz:∀ r,r ∈ l→r.small) (hl:l.length≤140737488355328) (ra:Option Addr) (rn rc:Nat) (hrn:rn≤140737488355328) (th:Int) (a2:Option Addr) (kn c2:Nat) (hkn:kn≤140737488355328) :
  Calls Tryz.prog 7 #[.agg #[.int .i64 kd,.int .i64 nm,.string st,.slice p1 i1 d1,.slice p2 i2 d2,.slice a l.length c],.agg #[.slice ra rn rc,.int .i64 th],.slice a2 kn c2] w fun e w'=>(∃ b,e = .returned (.bool b)∧(b=false→(l.length≤50∧P)∧rn≤30∧kn≤30))∧zb [] w w':=by
 obtain⟨W1,Gd⟩:∃ W1,Hid (W1=(w.alloc (.cells #[.int .i64 kd,.int .i64 nm,.string st,.slice p1 i1 d1,.slice p2 i2 d2,.slice a l.length c] 28)).alloc (.cells #[.slice ra rn rc,.int .i64 th] 31)):=⟨_,qI rfl⟩
 have Ga:Hid (zb [] w W1):=qI (by rw [Gd.o];exact ((zb.refl _ w).alloc _).alloc _)
 have Gb:Hid (W1.heap[w.heap.size]? = some (.cells #[.int .i64 kd,.int .i64 nm,.string st,.slice p1 i1 d1,.slice p2 i2 d2,.slice a l.length c] 28 (0,0))):=qI (by rw [Gd.o];exact ((zb.refl [] _).alloc _).heap (zd rfl) (by simp))
 have Gv:Hid (W1.heap[w.heap.size + 1]? = some (.cells #[.slice ra rn rc,.int .i64 th] 31 (0,0))):=qI (by rw [Gd.o];exact zd (by simp))
 have CL:=qI (KJ (h.kept0 Ga.o) (hr.kept0 Ga.o) hz hl)
 have hrI:(rn:Int)≤140737488355328:=by omega
 have hkI:(kn:Int)≤140737488355328:=by omega
 clear h hr hz hl hrn hkn
 generalize l.length=m at Gd Gb CL ⊢
 have c0:=za (o:=0) Gb.o rfl
 have c1:=za (o:=1) Gb.o rfl
 have c2':=za (o:=2) Gb.o rfl
 have c3:=za (o:=3) Gb.o rfl
 have c4:=za (o:=4) Gb.o rfl
 have c5:=za (o:=5) Gb.o rfl
 have r0:=za (o:=0) Gv.o rfl
 obtain⟨b30,hb30⟩:∃ b,decide ((30:Int) < rn)=b:=⟨_,rfl⟩
 go_enter func7,ntmps7
 go_upto_region 1 with fail
 change Code.wp _ _ _ _ ((w.alloc (.cells #[.int .i64 kd,.int .i64 nm,.string st,.slice p1 i1 d1,.slice p2 i2 d2,.slice a m c] 28)).alloc (.cells #[.slice ra rn rc,.int .i64 th] 31))
 rw [← Gd.o]
 cases b30 with
 | false=>
  have h30:(rn:Int)≤30:=by have:=of_decide_eq_false hb30;omega
  have H30:=qI h30
  clear hb30
  go_wp2_with (go_at_call 14;refine CL.o.mono ?_;rintro e w2 ⟨⟨b,rfl,hb⟩,hk2⟩;have HB:=qI hb;have Gf:=qI hk2;have z0:=hk2.cell r0 (by simp);clear hk2 hb;cases b)
  ·go_ret
   exact⟨⟨_,rfl,fun hb=>⟨HB.o (by first | rfl | trivial),by have:=H30.o;omega,by have h9:=hb;simp only [Bool.or_eq_false_iff,decide_eq_false_iff_not] at h9;omega⟩⟩,Ga.o.then Gf.o⟩
  ·go_ret
   exact⟨⟨true,rfl,fun h=>nomatch h⟩,Ga.o.then Gf.o⟩
 | true=>
  have h30:(30:Int) < rn:=of_decide_eq_true hb30
  clear hb30
  go_wp2_with (go_at_call 14;refine CL.o.mono ?_;rintro e w2 ⟨⟨b,rfl,hb⟩,hk2⟩;have HB:=qI hb;have Gf:=qI hk2;have z0:=hk2.cell r0 (by simp);clear hk2 hb;cases b)
  all_goals
   go_ret
   exact⟨⟨true,rfl,fun h=>nomatch h⟩,Ga.o.then Gf.o⟩
section
variable {P : Program} {ops : Array Oper} {Q : Exit → Act → World → Prop} {l n : Nat}
theorem rows_wide {m:Nat}{row:String}{args:Array Value}{w:World}{R:Value→World→Prop}(h:Rows P row args w R):RowsIn (Fence.wide.inRound l) m P row args w R:=
 fun c cs _=>let ⟨v,w',r,s⟩:=h c cs;⟨v,w',r,stepsIn_wide.2 s⟩
theorem op_round {o:Oper}{a:Act}{w:World}{K:Act→World→Prop}(hd:∀ c,o.op≠.defer c) (h:o.wp P a w K Q):o.wpIn (Fence.wide.inRound l) n P a w K Q:=by
 refine⟨fun _ _=>trivial,?_⟩
 rw [Oper.semAt_eq _ _ _ hd]
 unfold Oper.wp at h
 generalize (execOp a.eval o).run P w=r at h
 cases r with
 | ok x w'=>
  cases x <;> first
   | exact h
   | exact⟨fun h9=>by simp [Fence.wide,Fence.inRound] at h9,CallsIn.inRound l (callsIn_wide.2 (Calls.mono h (fun e w'' he=>by cases e <;> exact he)))⟩
   | exact⟨fun h9=>by simp [Fence.wide,Fence.inRound] at h9,rows_wide h⟩
   | exact h.elim
 | halt x w'=>cases x <;> first | exact h | exact h.elim
theorem opAt_round (hd:∀ o,o ∈ ops→∀ c,o.op≠.defer c) (hQ:¬ LetsOut Q) {i:Nat}{K K':Act→World→Prop}(hK:∀ a w,K a w→K' a w) {a:Act}{w:World}(h:wpOp P ops Q i K a w):wpOpIn (Fence.wide.inRound l) n P ops Q i K' a w:=by
 unfold wpOp at h
 unfold wpOpIn
 cases ho:ops[i]? with
 | none=>rw [ho] at h;exact hK _ _ h
 | some o=>
  rw [ho] at h
  simp only at h ⊢
  by_cases hw:Region.wanted o (yielded ops a.tmps)=true
  ·rw [if_pos hw] at h ⊢
   rcases h with h | h
   ·exact op_round (hd o (Array.mem_of_getElem? ho)) (Oper.wp_mono hK h)
   ·exact absurd h.2 hQ
  ·rw [if_neg hw] at h ⊢
   exact⟨fun _ _=>trivial,hK _ _ h⟩
theorem J7 (hd:∀ o,o ∈ ops→∀ c,o.op≠.defer c) (hQ:¬ LetsOut Q) {md:Region.Mode}:∀ (fuel:Nat) (listed:Array Bool) (a:Act) (w:World),wpAny P md ops Q fuel listed a w→wpAnyIn (Fence.wide.inRound l) n P md ops Q fuel listed a w
 | 0,_,_,_,h=>h
 | fuel + 1,_,_,_,h=>⟨h.1,fun i hi=>opAt_round hd hQ (fun a w=>J7 hd hQ fuel _ a w) (h.2 i hi)⟩
def noDefer (os:List Oper):Bool:=os.all fun o=>match o.op with | .defer _=>false | _=>true
theorem noDefer_of {os:List Oper}(h:noDefer os=true):∀ o,o ∈ os→∀ c,o.op≠.defer c:=fun o ho c e=>by
 have h1:=List.all_eq_true.1 h o ho
 rw [e] at h1
 cases h1
theorem jZ {id k:Nat}{a:Act}{w:World}{os:List Oper}(L:Nat) (fs:List (zg (zb []))) {F:(Nat→Value)→Act}(hm:P.follows .mixedOrders=true) (hnd:noDefer os=true) (hQ:¬ LetsOut Q) (hn:a.tmps.size=k) (hB:ordB os.toArray L k=true)
  (hF:∀ x,yM (os.map (·.dst)) 0 x a=F x)
  (hsteps:bS P os.toArray (zb []) fs w F (os.take L) 0)
  (hlast:∀ x w',zb [] w w'→∀ b:Nat→Nat × Nat,(∀ j,j < L→(qQ fs j).p (x j) (b j) w')→Zo w w' L b→wpList P os.toArray Q (os.drop L) (F x) w'):(Code.region id os.toArray true).wpIn (Fence.wide.inRound l) n P Q a w:=
 wpIn_region_any hm (J7 (fun o ho=>noDefer_of hnd o (by simpa using ho)) hQ _ _ _ _ (any_late (zb []) w L fs hn hB (zb.refl [] w).drew (fun _ _ _ h k=>h.then k) (fun _ _ h=>h.size) hF (fun _ _=>rfl) hsteps hlast))
end
def qU (l:List UInt8):List UInt8:=qV l.length 4 ++ l
def ZK (tag:List UInt8) (ps:List (List UInt8)):List UInt8:=zY ((tag :: ps).map qU).flatten
theorem vK (t:List UInt8) (ps:List (List UInt8)):(ZK t ps).length=32:=yn _
def tMsg:List UInt8:=[108,97,109,112,111,114,116,32,109,101,115,115,97,103,101]
def tSec:List UInt8:=[108,97,109,112,111,114,116,32,115,101,99,114,101,116]
def tKey:List UInt8:=[108,97,109,112,111,114,116,32,107,101,121]
def tNode:List UInt8:=[109,101,114,107,108,101,32,110,111,100,101]
def jm (m:List UInt8):List UInt8:=ZK tMsg [m]
theorem QZ (m:List UInt8):(jm m).length=32:=vK _ _
def yW (d:List UInt8) (b:Nat):Nat:=(d.getD (b / 8) 0).toNat / 2 ^ (7 - b % 8) % 2
theorem Y4 (d:List UInt8) (b:Nat):yW d b < 2:=Nat.mod_lt _ (by decide)
def yy (seed:List UInt8) (leaf bit side:Nat):List UInt8:=ZK tSec [seed,qV leaf 4,qV bit 2,[UInt8.ofNat side]]
theorem jN (seed:List UInt8) (leaf bit side:Nat):(yy seed leaf bit side).length=32:=vK _ _
def xL (seed:List UInt8) (leaf b:Nat):List UInt8:=zY (yy seed leaf b 0) ++ zY (yy seed leaf b 1)
def bR (seed:List UInt8) (leaf bits:Nat):List UInt8:=ZK tKey [((List.range bits).map (xL seed leaf)).flatten]
theorem qX (seed:List UInt8) (leaf bits:Nat):(bR seed leaf bits).length=32:=vK _ _
structure Zw where
 rev:List (List UInt8)
 oth:List (List UInt8)
def yH (l:List (List UInt8)):Prop:=∀ x,x ∈ l→x.length=32
theorem yH.flat {l:List (List UInt8)}(h:yH l):l.flatten.length=l.length * 32:=by
 induction l with
 | nil=>rfl
 | cons x t ih=>
  rw [List.flatten_cons,List.length_append,ih (fun y hy=>h y (List.mem_cons_of_mem _ hy)),h x (by simp),List.length_cons]
  omega
def revL (seed:List UInt8) (leaf:Nat) (m:List UInt8) (b:Nat):List UInt8:=yy seed leaf b (yW (jm m) b)
def othL (seed:List UInt8) (leaf:Nat) (m:List UInt8) (b:Nat):List UInt8:=zY (yy seed leaf b (1 - yW (jm m) b))
def jd (seed:List UInt8) (leaf bits:Nat) (m:List UInt8):Zw:=⟨(List.range bits).map (revL seed leaf m),(List.range bits).map (othL seed leaf m)⟩
theorem signL_32 (seed:List UInt8) (leaf bits:Nat) (m:List UInt8):yH (jd seed leaf bits m).rev∧yH (jd seed leaf bits m).oth:=by
 refine⟨fun x hx=>?_,fun x hx=>?_⟩
 ·obtain⟨b,-,rfl⟩:=List.mem_map.1 hx
  exact jN _ _ _ _
 ·obtain⟨b,-,rfl⟩:=List.mem_map.1 hx
  exact yn _
def YP (m:List UInt8) (o:Zw) (b:Nat):List UInt8:=
 if yW (jm m) b=0 then zY (o.rev.getD b []) ++ o.oth.getD b [] else o.oth.getD b [] ++ zY (o.rev.getD b [])
def ko (m:List UInt8) (o:Zw):List UInt8:=ZK tKey [((List.range o.rev.length).map (YP m o)).flatten]
theorem Zr (m:List UInt8) (o:Zw):(ko m o).length=32:=vK _ _
theorem impl_sign (seed:List UInt8) (leaf bits:Nat) (m:List UInt8):ko m (jd seed leaf bits m)=bR seed leaf bits:=by
 unfold ko bR
 have e:(jd seed leaf bits m).rev.length=bits:=by simp [jd]
 rw [e]
 congr 3
 apply List.map_congr_left
 intro b hb
 have hb:=List.mem_range.1 hb
 have h1:(jd seed leaf bits m).rev.getD b []=revL seed leaf m b:=by
  simp [jd,List.getD,hb]
 have h2:(jd seed leaf bits m).oth.getD b []=othL seed leaf m b:=by
  simp [jd,List.getD,hb]
 unfold YP xL
 rw [h1,h2,revL,othL]
 have h3:=Y4 (jm m) b
 by_cases h0:yW (jm m) b=0
 ·rw [if_pos h0,h0]
 ·have h4:yW (jm m) b=1:=by omega
  rw [if_neg h0,h4]
def kS (o:Zw) (b:Nat):List UInt8:=o.rev.getD b [] ++ o.oth.getD b []
def kY (o:Zw):List UInt8:=((List.range o.rev.length).map (kS o)).flatten
def Zv (n k:Nat) (l:List UInt8):List (List UInt8):=(List.range k).map fun i=>(l.drop (n * i)).take n
theorem KW (n k:Nat) (l:List UInt8):(Zv n k l).length=k:=by simp [Zv]
theorem cutL_32 {n k:Nat}{l:List UInt8}(h:l.length=n * k):∀ x,x ∈ Zv n k l→x.length=n:=fun x hx=>by
 obtain⟨i,hi,rfl⟩:=List.mem_map.1 hx
 have hi:=List.mem_range.1 hi
 have h1:n * (i + 1)≤n * k:=Nat.mul_le_mul_left n hi
 rw [Nat.mul_add] at h1
 simp
 omega
theorem YN (n:Nat):∀ (ls:List (List UInt8)),(∀ x,x ∈ ls→x.length=n)→Zv n ls.length ls.flatten=ls
 | [],_=>rfl
 | x :: t,h=>by
  have hx:=h x (by simp)
  have ih:=YN n t (fun y hy=>h y (List.mem_cons_of_mem _ hy))
  unfold Zv at ih ⊢
  rw [List.length_cons,List.range_succ_eq_map,List.map_cons,List.map_map,List.flatten_cons]
  congr 1
  ·simp [← hx]
  ·conv=>rhs;rw [← ih]
   apply List.map_congr_left
   intro i _
   show List.take n (List.drop (n * (i + 1)) (x ++ t.flatten))=_
   rw [Nat.mul_add,Nat.mul_one,Nat.add_comm,← List.drop_drop]
   congr 2
   rw [← hx,List.drop_left]
def ZR (k:Nat) (l:List UInt8):Zw:=⟨(Zv 64 k l).map (List.take 32),(Zv 64 k l).map (List.drop 32)⟩
theorem decO_32 {k:Nat}{l:List UInt8}(h:l.length=64 * k):yH (ZR k l).rev∧yH (ZR k l).oth:=by
 refine⟨fun x hx=>?_,fun x hx=>?_⟩
 ·obtain⟨y,hy,rfl⟩:=List.mem_map.1 hx
  have:=cutL_32 h y hy
  rw [List.length_take];omega
 ·obtain⟨y,hy,rfl⟩:=List.mem_map.1 hx
  have:=cutL_32 h y hy
  rw [List.length_drop];omega
theorem Kr (k:Nat) (l:List UInt8):(ZR k l).rev.length=k∧(ZR k l).oth.length=k:=by simp [ZR,KW]
theorem jp {o:Zw}(h1:yH o.rev) (h2:yH o.oth) (hl:o.oth.length=o.rev.length) {b:Nat}(hb:b < o.rev.length):(o.rev.getD b []).length=32∧(o.oth.getD b []).length=32:=by
 refine⟨?_,?_⟩
 ·rw [List.getD,List.getElem?_eq_getElem hb];exact h1 _ (List.getElem_mem _)
 ·rw [List.getD,List.getElem?_eq_getElem (by omega)];exact h2 _ (List.getElem_mem _)
theorem Y1 {o:Zw}(h1:yH o.rev) (h2:yH o.oth) (hl:o.oth.length=o.rev.length):(kY o).length=64 * o.rev.length:=by
 unfold kY
 have:∀ k,k≤o.rev.length→((List.range k).map (kS o)).flatten.length=64 * k:=by
  intro k
  induction k with
  | zero=>intro _;rfl
  | succ k ih=>
   intro hk
   have h3:=jp h1 h2 hl (b:=k) (by omega)
   rw [List.range_succ,List.map_append,List.flatten_append,List.length_append,ih (by omega)]
   simp only [List.map_cons,List.map_nil,List.flatten_cons,List.flatten_nil,List.append_nil,kS,List.length_append]
   omega
 exact this _ (Nat.le_refl _)
theorem dec_code {o:Zw}(h1:yH o.rev) (h2:yH o.oth) (hl:o.oth.length=o.rev.length):ZR o.rev.length (kY o)=o:=by
 have hc:Zv 64 o.rev.length (kY o)=(List.range o.rev.length).map (kS o):=by
  have h3:=YN 64 ((List.range o.rev.length).map (kS o)) (fun x hx=>by
   obtain⟨b,hb,rfl⟩:=List.mem_map.1 hx
   have h4:=jp h1 h2 hl (List.mem_range.1 hb)
   rw [kS,List.length_append];omega)
  rw [List.length_map,List.length_range] at h3
  exact h3
 cases o with
 | mk rev oth=>
  simp only at hl h1 h2 hc ⊢
  unfold ZR
  rw [hc]
  congr 1
  ·apply List.ext_getElem
   ·simp
   ·intro i hi1 hi2
    have h4:=jp (o:=⟨rev,oth⟩) h1 h2 hl hi2
    simp only at h4
    simp only [List.getElem_map,List.getElem_range,kS]
    rw [List.take_append_of_le_length (by omega),List.take_of_length_le (by omega)]
    simp [List.getD,hi2]
  ·apply List.ext_getElem
   ·simp [hl]
   ·intro i hi1 hi2
    have h4:=jp (o:=⟨rev,oth⟩) (b:=i) h1 h2 hl (by simp only;omega)
    simp only at h4
    simp only [List.getElem_map,List.getElem_range,kS]
    rw [List.drop_append_of_le_length (by omega),List.drop_of_length_le (by omega),List.nil_append]
    simp [List.getD,hi2]
def xC (a b:List UInt8):List UInt8:=ZK tNode [a,b]
theorem yP (a b:List UInt8):(xC a b).length=32:=vK _ _
def kJ:List UInt8→Nat→List (List UInt8)→List UInt8
 | x,_,[]=>x
 | x,i,y :: t=>kJ (if i % 2=0 then xC x y else xC y x) (i / 2) t
theorem KE:∀ (t:List (List UInt8)) (x:List UInt8) (i:Nat),x.length=32→(kJ x i t).length=32
 | [],_,_,h=>h
 | y :: t,x,i,_=>KE t _ _ (by split <;> exact yP _ _)
structure SigS where
 leaf:Nat
 one:Zw
 way:List (List UInt8)
def bH (l:List UInt8):Nat:=l.foldl (fun n c=>n * 256 + c.toNat) 0
theorem numB_snoc (l:List UInt8) (c:UInt8):bH (l ++ [c])=bH l * 256 + c.toNat:=by simp [bH]
def qu (bits height:Nat) (b:List UInt8):SigS:=⟨bH (b.take 4),ZR bits ((b.drop 4).take (64 * bits)),Zv 32 height ((b.drop (4 + 64 * bits)).take (32 * height))⟩
def jS (bits height:Nat) (b:List UInt8):Bool:=decide (b.length=4 + 64 * bits + 32 * height) && decide (bH (b.take 4)≤1073741824)
def JA (root:List UInt8) (m:List UInt8) (s:SigS):Bool:=decide (s.leaf < 2 ^ s.way.length) && decide (kJ (ko m s.one) s.leaf s.way=root)
def xE (s:SigS):List UInt8:=qV s.leaf 4 ++ kY s.one ++ s.way.flatten
theorem tySlices:yR Tryz.prog 164 53 1 24 (.slice none 0 0):=⟨underlying164,by kernel_rfl,rfl,by decide⟩
theorem growS_any (n:Nat) (w:World) (hn:n≤100000) :
  Calls Tryz.prog 178 #[.slice none 0 0,.int .i64 n] w fun e w'=>∃ v',e = .returned v'∧w'.ownsRow w.heap.size 53 1 v' 0 []∧zb [] w w':=by
 obtain⟨i,hi,hz,hs,hb⟩:=info_parts tySlices.info
 by_cases h0:0 < n
 ·have hrun:=Lib.run_append_nil_zeros w 164 3 164 53 i (.slice none 0 0) .i64 .i64 underlying164 underlying3 hi hz n h0 (by omega) (by omega) (by rw [hb];omega)
  have hge:=grownCap_ge w n 0 53
  have hmx:=grownCap_le_maxLen w n 0 53 (by simp only [maxLen];omega)
  have hsz:(Builtin.zeroCells (Value.slice none 0 0).cells n ++ Builtin.zeroCells (Value.slice none 0 0).cells (grownCap w n 0 53 - n)).size=grownCap w n 0 53 * 1:=by
   simp only [Array.size_append,size_zeroCells];simp [Value.cells];omega
  revert hrun hge hmx hsz
  generalize grownCap w n 0 53=cap
  generalize (Builtin.zeroCells (Value.slice none 0 0).cells n ++ Builtin.zeroCells (Value.slice none 0 0).cells (cap - n))=cs
  intro hrun hge hmx hsz
  have hmx':=qI hmx
  have hsz':=qI hsz
  have hn2:(n:Int)≤100000:=by omega
  have hr':=qI hrun
  clear hmx hsz hn hi hz hs hb hrun
  go_enter func178,ntmps178
  go_wp2_with (at_builtin;refine Lib.wpList_append_run _ rfl _ _ _ _ rfl _ _ rfl rfl _ _ hr'.o ?_)
  go_ret
  refine⟨_,rfl,⟨rfl,.inr ⟨w.heap.size,cap,cs,rfl,Nat.le_refl _,heap_alloc_new w.drew _,Nat.zero_le _,hmx'.o,hsz'.o,by simp⟩⟩,((zb.refl _ w).drew).alloc _⟩
 ·obtain rfl:n=0:=by omega
  go_enter func178,ntmps178
  go_wp2
  go_ret
  exact⟨_,rfl,World.ownsRow_nil _ _ _ _,zb.refl _ _⟩
theorem concatS_any (g o cap:Nat) (vals:List Value) (ls:List (List Value)) (w:World) (hrow:Row w g o vals) (hall:zI (fun v l=>Slc w 1 v l.length l) vals ls) (h1:∀ l,l ∈ ls→∀ u ∈ l,u.oneCell'=true) (hsum:ls.flatten.length≤100000) (hk:vals.length≤100000) :
  Calls Tryz.prog 141 #[.slice (some ⟨g,o,none⟩) vals.length cap] w fun e w'=>∃ v',e = .returned v'∧w'.ownsRow w.heap.size 53 1 v' ls.flatten.length ls.flatten∧zb [] w w':=by
 have hle:∀ j,(ls.take j).flatten.length≤100000:=fun j=>by have:=jg ls j;omega
 have hlen:=hall.1
 have Hle:=qI hle
 have Hlen:=qI hlen
 have Hsum:=qI hsum
 have H1:=qI h1
 have hkI:(vals.length:Int)≤100000:=by omega
 clear hle hlen hsum hk h1
 go_enter func141,ntmps141
 go_wp2_with fail
 go_loop [3,11] (fun s i=>∃ k:Nat,k≤vals.length∧i = .int .i64 k∧s = .int .i64 (ls.take k).flatten.length) (fun _ i=>vals.length - (intOf i).toNat)
 case atStart=>exact⟨0,Nat.zero_le _,rfl,by simp⟩
 case round=>
  obtain⟨k,hk,rfl,rfl⟩:=hrel
  by_cases hlt:k < vals.length
  ·have hlt2:k < ls.length:=by rw [← Hlen.o];exact hlt
   have hc:=hrow.at hlt
   have hb:=hall.2 k vals[k] ls[k] (by simp [hlt]) (by simp [hlt2])
   have hb':=qI hb
   obtain⟨a1,c1,hv,-,-⟩:=hb.form
   rw [hv] at hc
   have hs:=qI (xQ ls k hlt2)
   have l1:=Hle.o k
   have l2:=Hle.o (k + 1)
   have l3:(ls.take k).flatten.length + ls[k].length≤100000:=by rw [hs.o,List.length_append] at l2;exact l2
   clear hb hv l2
   revert l1 l3 hs
   generalize hn1:(ls.take k).flatten.length=n1
   generalize hn2:ls[k].length=n2 at hc ⊢
   intro hs l1 l3
   have Hn1:=qI hn1
   have Hn2:=qI hn2
   clear hn1 hn2
   go_wp2_with fail
   go_round
   case rel=>
    refine⟨k + 1,by omega,by go_num,?_⟩
    rw [hs.o,List.length_append,Hn1.o,Hn2.o]
    go_num
   case measure=>simp [intOf];omega
  ·obtain rfl:k=vals.length:=by omega
   have e1:ls.take vals.length=ls:=by rw [Hlen.o];exact List.take_length
   rw [e1]
   have l0:=Hle.o vals.length
   rw [e1] at l0
   clear e1
   revert l0
   generalize hN:ls.flatten.length=N
   intro l0
   have HN:=qI hN
   clear hN
   have hg:=growS_any N w l0
   have Hg:=qI hg
   clear hg
   go_wp2_with (go_at_call 178;refine Hg.o.mono ?_;rintro e w1 ⟨v1,rfl,hown1,hk1⟩)
   clear Hg
   go_loopw [6,27] (fun v i wr=>∃ k:Nat,k≤vals.length∧i = .int .i64 k∧wr.ownsRow w.heap.size 53 1 v (ls.take k).flatten.length (ls.take k).flatten∧zb [] w wr) (fun _ i _=>vals.length - (intOf i).toNat)
   case atStart=>exact⟨0,Nat.zero_le _,rfl,by simpa using hown1,hk1⟩
   case round=>
    obtain⟨k,hk,rfl,hown,hkr⟩:=hrel
    by_cases hlt:k < vals.length
    ·have hlt2:k < ls.length:=by rw [← Hlen.o];exact hlt
     have hc:=(hrow.kept hkr (by simp)).at hlt
     have hb:=(hall.2 k vals[k] ls[k] (by simp [hlt]) (by simp [hlt2])).kept0 hkr
     have hs:=qI (xQ ls k hlt2)
     have l1:=Hle.o (k + 1)
     rw [hs.o,List.length_append] at l1
     have l2:=qI l1
     clear l1
     have hbase:=hkr.size
     have Hown:=qI hown
     clear hown
     go_wp2_with (at_builtin;refine zj tySlices Hown.o hb (H1.o _ (List.getElem_mem _)) (by have:=l2.o;simp only [maxLen];omega) (by have:=l2.o;omega) hbase rfl _ _ rfl rfl rfl ?_;intro v' w2 hown2 hk2 _ hb2)
     go_roundw
     case rel=>
      refine⟨k + 1,by omega,by go_num,?_,hkr.trans hk2 ?_⟩
      ·rw [hs.o,List.length_append];exact hown2
      ·intro i hi
       exact .inr ((World.ownsRow.lt Hown.o i (Option.mem_toList.1 hi)).1)
     case measure=>simp [intOf];omega
    ·obtain rfl:k=vals.length:=by omega
     have e1:ls.take vals.length=ls:=by rw [Hlen.o];exact List.take_length
     rw [e1] at hown
     have Hown:=qI hown
     clear hown e1
     go_wp2
     go_ret
     exact⟨_,rfl,by rw [← HN.o];exact Hown.o,hkr⟩
theorem Q3 (l:List UInt8):(qU l).length=4 + l.length:=by rw [qU,List.length_append,yN]
theorem octText_any (s:ByteArray) (hs:s.size≤1048576) (w:World):Calls Tryz.prog 142 #[.string s] w fun e w'=>(∃ a c,e = .returned (.tuple #[.slice a (qU s.data.toList).length c,.int .i64 0])∧xN w w' (.slice a (qU s.data.toList).length c) (qU s.data.toList))∧zb [] w w':=by
 have CP:=qI (ZO s.size 4 w (by decide) (by decide) (.inr (by omega)))
 have HL:Hid (s.data.toList.length=s.size):=qI (by simp)
 have Gw:Hid ((qU s.data.toList).length=4 + s.size):=qI (by rw [Q3,HL.o])
 have Gx:Hid (((qV s.size 4).map bv ++ Lib.strCells s)=(qU s.data.toList).map bv):=qI (by rw [qU,List.map_append,HL.o];rfl)
 obtain⟨i0,hi,hz0,hz1,hz2⟩:=info_parts ji.info
 have HI:=qI hi
 have HZ:=qI (And.intro hz0 (And.intro hz1 hz2))
 have hsI:(s.size:Int)≤1048576:=by omega
 have Gl:=qI hs
 generalize hN:(qU s.data.toList).length=N
 have HN:=qI hN
 clear hi hz0 hz1 hz2 hs hN
 go_enter func142,ntmps142
 go_wp2_with first
  | (go_at_call 80;refine CP.o.mono ?_;rintro e w1 ⟨a1,c1,rfl,hown1,hk1⟩;have Gm:=qI hown1;have Ga:=qI hk1;clear hown1 hk1)
  | (at_builtin;refine Lib.wpList_append_own_string _ rfl _ _ 53 9 rfl w.heap.size 5 i0 underlying53 underlying9 HI.o HZ.o.1 HZ.o.2.1 HZ.o.2.2 (.slice a1 4 c1) 4 _ rfl Gm.o s rfl (by have:=Gl.o;simp only [maxLen];omega) (by have:=Gl.o;omega) Ga.o.size ?_;intro v2 w2 hown2 hg2 _;rw [Gx.o,← Gw.o,HN.o] at hown2;obtain⟨a2,c2,rfl,-,-⟩:=(Slc.of_row hown2).form;have Gy:=qI hown2;have Gz:=qI hg2;clear hown2 hg2)
 go_ret2
 exact⟨⟨_,_,rfl,qM Gy.o⟩,Ga.o.grown Gz.o (fun k hk=>.inr (Gm.o.lt k hk).1)⟩
end Go.Proofs.YtibnfbglanpoiaaGreatDoor

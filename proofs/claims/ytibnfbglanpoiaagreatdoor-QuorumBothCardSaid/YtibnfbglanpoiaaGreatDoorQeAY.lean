/- Parts of one proof, merged: XFN. -/
import Derived.Test.YtibnfbglanpoiaaGreatDoorQeAX
import Derived.Test.YtibnfbglanpoiaaGreatDoorQeAQ
set_option linter.all false
set_option maxHeartbeats 12800000
set_option maxRecDepth 100000
namespace Go.Proofs.YtibnfbglanpoiaaGreatDoor
open Go.Proofs.Tryz
open Go.RowKit
attribute [local go_sem] Oper.semAt_some
theorem enough_two (r:qz) (k:Nat):yN r k=0∨yN r k=180:=by
 unfold yN
 split
 ·exact .inl rfl
 ·exact .inr rfl
theorem KP {n:Nat}{v:V n}{S:Nat→Prop}{w:World}{cs:List Value}(hv:bm n BB S w cs v) {a:Option Addr}{c:Nat}{l:List yr}(hr:q8 w (.slice a l.length c) l) (hz:∀ r,r∈l→r.small) (hl:l.length≤140737488355328)
  {r:qz}{ra:Option Addr}{rc:Nat}(hro:xJ w (.slice ra r.keys.length rc) r.keys) (hrz:∀ k,k∈r.keys→k.size≤140737488355328) (hrn:r.keys.length≤140737488355328)
  {q:qz}{qa:Option Addr}{qc:Nat}(hqo:xJ w (.slice qa q.keys.length qc) q.keys) (hqz:∀ k,k∈q.keys→k.size≤140737488355328) (hqn:q.keys.length≤140737488355328)
  {a2:Option Addr}{c2:Nat}{keys:List xW}(hk:Slc w 35 (.slice a2 keys.length c2) keys.length (vW keys)) (hkf:∀ r,r∈keys→r.fine) (hkn:keys.length≤140737488355328)
  {a3:Option Addr}{c3:Nat}{under:List xW}(hu:Slc w 35 (.slice a3 under.length c3) under.length (vW under)) (huf:∀ r,r∈under→r.fine) (hun:under.length≤140737488355328) (ht:qC w) (hks:xN w) :
  CL w 3 #[.agg (vG cs a l.length c).toArray,.agg #[.slice ra r.keys.length rc,.int .i64 r.thr],.agg #[.slice qa q.keys.length qc,.int .i64 q.thr],.slice a2 keys.length c2,.slice a3 under.length c3] (.bool true):=by
 obtain⟨kd,nm,st,p1,i1,d1,p2,i2,d2,rfl⟩:=hv.1.conv
 obtain⟨W1,Gc⟩:∃ W1,Hid (W1=((w.alloc (.cells #[.int .i64 kd,.int .i64 nm,.string st,.slice p1 i1 d1,.slice p2 i2 d2,.slice a l.length c] 28)).alloc (.cells #[.slice ra r.keys.length rc,.int .i64 r.thr] 31)).alloc (.cells #[.slice qa q.keys.length qc,.int .i64 q.thr] 31)):=⟨_,qI rfl⟩
 have Gb:Hid (zb [] w W1):=qI (kA3 Gc.o)
 have Gd:Hid (W1.heap[w.heap.size]? = some (.cells #[.int .i64 kd,.int .i64 nm,.string st,.slice p1 i1 d1,.slice p2 i2 d2,.slice a l.length c] 28 (0,0))):=qI (by rw [Gc.o];exact (((zb.refl [] _).alloc _).alloc _).heap (zd rfl) Wz)
 have Gg:Hid (W1.heap[w.heap.size+1]? = some (.cells #[.slice ra r.keys.length rc,.int .i64 r.thr] 31 (0,0))):=qI (by rw [Gc.o];exact ((zb.refl [] _).alloc _).heap (zd Wz) Wz)
 have Gh:Hid (W1.heap[w.heap.size+2]? = some (.cells #[.slice qa q.keys.length qc,.int .i64 q.thr] 31 (0,0))):=qI (by rw [Gc.o];exact zd Wz)
 have Gk:Hid (ZQ (∃ v':V 21,Rep 21 S w [.int .i64 kd,.int .i64 nm,.string st,.slice p1 i1 d1,.slice p2 i2 d2] v'∧yA 21 v') w (.agg #[.int .i64 kd,.int .i64 nm,.string st,.slice p1 i1 d1,.slice p2 i2 d2])):=qI (incomingR hv)
 have CLR:Hid (∀ w2,zb [] w w2→_):=qI (fun w2 (h:zb [] w w2)=>QX (Gk.o.kept0 h) (hr.kept0 h) hz hl ra r.keys.length rc hrn r.thr a2 keys.length c2 hkn)
 have CLQ:Hid (∀ w2,zb [] w w2→_):=qI (fun w2 (h:zb [] w w2)=>QX (Gk.o.kept0 h) (hr.kept0 h) hz hl qa q.keys.length qc hqn q.thr a3 under.length c3 hun)
 have CLL:Hid (Cq w 8 #[] (.bool true)):=qI (fun w2 h=>lives18_any (ht.kept0 h) (hks.kept0 h))
 have Ga:Hid (((l.length≤50∧∃ v':V 21,Rep 21 S w [.int .i64 kd,.int .i64 nm,.string st,.slice p1 i1 d1,.slice p2 i2 d2] v'∧yA 21 v')∧r.keys.length≤30∧keys.length≤30)→((l.length≤50∧∃ v':V 21,Rep 21 S w [.int .i64 kd,.int .i64 nm,.string st,.slice p1 i1 d1,.slice p2 i2 d2] v'∧yA 21 v')∧q.keys.length≤30∧under.length≤30) →
   ∃ x y:Int,(x=0∨x=180)∧(∀ w2,zb [] w w2→Calls Tryz.prog 9 #[.agg #[.int .i64 kd,.int .i64 nm,.string st,.slice p1 i1 d1,.slice p2 i2 d2,.slice a l.length c],.agg #[.slice ra r.keys.length rc,.int .i64 r.thr],.slice a2 keys.length c2] w2 fun e w'=>e = .returned (.int .i64 x)∧zb [] w2 w') ∧
    (∀ w2,zb [] w w2→Calls Tryz.prog 9 #[.agg #[.int .i64 kd,.int .i64 nm,.string st,.slice p1 i1 d1,.slice p2 i2 d2,.slice a l.length c],.agg #[.slice qa q.keys.length qc,.int .i64 q.thr],.slice a3 under.length c3] w2 fun e w'=>e = .returned (.int .i64 y)∧zb [] w2 w') ∧
    (∀ w2,zb [] w w2→Calls Tryz.prog 10 #[.agg #[.int .i64 kd,.int .i64 nm,.string st,.slice p1 i1 d1,.slice p2 i2 d2,.slice a l.length c],.agg #[.slice ra r.keys.length rc,.int .i64 r.thr],.agg #[.slice qa q.keys.length qc,.int .i64 q.thr],.slice a2 keys.length c2,.slice a3 under.length c3] w2 fun e w'=>e = .returned (.int .i64 (if x=0 then y else x))∧zb [] w2 w')):=qI (by
  rintro ⟨⟨h50,v',hv1,hv2⟩,hr30,hk30⟩ ⟨-,hq30,hu30⟩
  have HE:∀ w2,zb [] w w2→Env 21 S w2 [.int .i64 kd,.int .i64 nm,.string st,.slice p1 i1 d1,.slice p2 i2 d2] v' a c l:=fun w2 h=>⟨hv1.kept0 h,hv2,Wo,hr.kept0 h,hz,Ws⟩
  have HR:∀ w2,zb [] w w2→kP w2 ra rc r:=fun w2 h=>⟨hro.kept0 h,hrz,Ws⟩
  have HQ:∀ w2,zb [] w w2→kP w2 qa qc q:=fun w2 h=>⟨hqo.kept0 h,hqz,Ws⟩
  have Gf:∀ w2,zb [] w w2→xP w2 (.slice a2 keys.length c2) keys:=fun w2 h=>⟨Slc.kept0 hk h,hkf,Ws⟩
  have Gl:∀ w2,zb [] w w2→xP w2 (.slice a3 under.length c3) under:=fun w2 h=>⟨Slc.kept0 hu h,huf,Ws⟩
  refine⟨yN r (zU 21 v' l r keys).length,yN q (zU 21 v' l q under).length,enough_two _ _,fun w2 h=>?_,fun w2 h=>?_,fun w2 h=>?_⟩
  ·exact YC (HE w2 h) (HR w2 h) (Gf w2 h)
  ·exact YC (HE w2 h) (HQ w2 h) (Gl w2 h)
  ·exact both_any (HE w2 h) (ht.kept0 h) (hks.kept0 h) (HR w2 h) (HQ w2 h) (Gf w2 h) (Gl w2 h))
 clear hv hr hz hl hro hrz hrn hqo hqz hqn hk hkf hkn hu huf hun ht hks
 show Calls _ _ #[.agg #[.int .i64 kd,.int .i64 nm,.string st,.slice p1 i1 d1,.slice p2 i2 d2,.slice a l.length c],.agg #[.slice ra r.keys.length rc,.int .i64 r.thr],.agg #[.slice qa q.keys.length qc,.int .i64 q.thr],.slice a2 keys.length c2,.slice a3 under.length c3] _ _
 generalize l.length=m at Gc Gd CLR CLQ Ga ⊢
 generalize r.keys.length=rn at Gc Gg CLR Ga ⊢
 generalize r.thr=th at Gc Gg CLR Ga ⊢
 generalize q.keys.length=qn at Gc Gh CLQ Ga ⊢
 generalize q.thr=tq at Gc Gh CLQ Ga ⊢
 generalize keys.length=kn at CLR Ga ⊢
 generalize under.length=un at CLQ Ga ⊢
 have Ge:Hid (∀ w2,zb [] W1 w2→(w2.cell? ⟨w.heap.size,0,none⟩=some (.int .i64 kd)∧w2.cell? ⟨w.heap.size,1,none⟩=some (.int .i64 nm)∧w2.cell? ⟨w.heap.size,2,none⟩=some (.string st)∧w2.cell? ⟨w.heap.size,3,none⟩=some (.slice p1 i1 d1)∧w2.cell? ⟨w.heap.size,4,none⟩=some (.slice p2 i2 d2)∧w2.cell? ⟨w.heap.size,5,none⟩=some (.slice a m c))∧w2.cell? ⟨w.heap.size+1,0,none⟩=some (.slice ra rn rc)∧w2.cell? ⟨w.heap.size+1,1,none⟩=some (.int .i64 th)∧w2.cell? ⟨w.heap.size+2,0,none⟩=some (.slice qa qn qc)∧w2.cell? ⟨w.heap.size+2,1,none⟩=some (.int .i64 tq)):=qI (fun w2 h=>
  ⟨⟨h.cell (za (o:=0) Gd.o rfl) Wz,h.cell (za (o:=1) Gd.o rfl) Wz,h.cell (za (o:=2) Gd.o rfl) Wz,h.cell (za (o:=3) Gd.o rfl) Wz,h.cell (za (o:=4) Gd.o rfl) Wz,h.cell (za (o:=5) Gd.o rfl) Wz⟩,h.cell (za (o:=0) Gg.o rfl) Wz,h.cell (za (o:=1) Gg.o rfl) Wz,h.cell (za (o:=0) Gh.o rfl) Wz,h.cell (za (o:=1) Gh.o rfl) Wz⟩)
 obtain⟨⟨c0,c1,c2',c3',c4,c5⟩,r0,r1,q0,q1⟩:=Ge.o W1 Wd
 go_enter func3,ntmps3
 go_upto_region 1 with fail
 refine yq Gc.o ?_
 go_upto_region 3 with first
  | (have hq:=Gi.o;go_at_call 8;refine (CLL.o _ (Gb.o.then hq)).mono ?_;rintro e w4 ⟨rfl,hk4⟩;have Gj:=qI (Gb.o.then (hq.then hk4));clear hk4 hq)
  | (have hq:=Gf.o;go_at_call 7;refine (CLQ.o _ (Gb.o.then hq)).mono ?_;rintro e w3 ⟨⟨b,rfl,hb⟩,hk3⟩;have Gm:=qI hb;have Gi:Hid (zb [] W1 w3):=qI (hq.then hk3);obtain⟨⟨e0,e1,e2,e3,e4,e5⟩,s0,s1,t0,t1⟩:=Ge.o _ Gi.o;clear hk3 hb hq y0 y1 y2 y3 y4 y5 u0 u1 v0 v1;cases b)
  | (have hq:=Gf.o;go_at_call 8;refine (CLL.o _ (Gb.o.then hq)).mono ?_;rintro e w4 ⟨rfl,hk4⟩;have Gj:=qI (Gb.o.then (hq.then hk4));clear hk4 hq)
  | (go_at_call 7;refine (CLR.o _ Gb.o).mono ?_;rintro e w2 ⟨⟨b,rfl,hb⟩,hk2⟩;have Gn:=qI hb;have Gf:Hid (zb [] W1 w2):=qI hk2;obtain⟨⟨y0,y1,y2,y3,y4,y5⟩,u0,u1,v0,v1⟩:=Ge.o _ hk2;clear hk2 hb c0 c1 c2' c3' c4 c5 r0 r1 q0 q1;cases b)
 rotate_left
 ·go_ret
  exact⟨rfl,Gj.o⟩
 ·go_ret
  exact⟨rfl,Gj.o⟩
 obtain⟨x,y,hx,hC1,hC2,hC3⟩:=Ga.o (Gn.o (by first | rfl | trivial)) (Gm.o (by first | rfl | trivial))
 have C1:=qI hC1
 have C2:=qI hC2
 clear hC1 hC2
 rcases hx with rfl | rfl
 ·rw [if_pos rfl] at hC3
  have C3:=qI hC3
  clear hC3
  go_wp2_with first
   | (have hq:=HL.o;go_at_call 10;refine (C3.o _ (Gb.o.then hq)).mono ?_;rintro e w8 ⟨rfl,hk8⟩;have HZ:=qI (Gb.o.then (hq.then hk8));clear hk8 hq)
   | (have hq:=HF.o;go_at_call 8;refine (CLL.o _ (Gb.o.then hq)).mono ?_;rintro e w7 ⟨rfl,hk7⟩;have HL:Hid (zb [] W1 w7):=qI (hq.then hk7);obtain⟨⟨g0,g1,g2,g3,g4,g5⟩,g6,g7,g8,g9⟩:=Ge.o _ HL.o;clear hk7 hq)
   | (have hq:=HD.o;go_at_call 9;refine (C2.o _ (Gb.o.then hq)).mono ?_;rintro e w6 ⟨rfl,hk6⟩;have HF:Hid (zb [] W1 w6):=qI (hq.then hk6);clear hk6 hq d0 d1 d2 d3 d4 d5 d6 d7 d8 d9)
   | (have hq:=Gi.o;go_at_call 9;refine (C1.o _ (Gb.o.then hq)).mono ?_;rintro e w5 ⟨rfl,hk5⟩;have HD:Hid (zb [] W1 w5):=qI (hq.then hk5);obtain⟨⟨d0,d1,d2,d3,d4,d5⟩,d6,d7,d8,d9⟩:=Ge.o _ HD.o;clear hk5 hq e0 e1 e2 e3 e4 e5 s0 s1 t0 t1)
  go_ret
  exact⟨rfl,HZ.o⟩
 ·rw [if_neg Wo] at hC3
  have C3:=qI hC3
  clear hC3
  go_wp2_with first
   | (have hq:=HL.o;go_at_call 10;refine (C3.o _ (Gb.o.then hq)).mono ?_;rintro e w8 ⟨rfl,hk8⟩;have HZ:=qI (Gb.o.then (hq.then hk8));clear hk8 hq)
   | (have hq:=HD.o;go_at_call 8;refine (CLL.o _ (Gb.o.then hq)).mono ?_;rintro e w7 ⟨rfl,hk7⟩;have HL:Hid (zb [] W1 w7):=qI (hq.then hk7);obtain⟨⟨g0,g1,g2,g3,g4,g5⟩,g6,g7,g8,g9⟩:=Ge.o _ HL.o;clear hk7 hq)
   | (have hq:=Gi.o;go_at_call 9;refine (C1.o _ (Gb.o.then hq)).mono ?_;rintro e w5 ⟨rfl,hk5⟩;have HD:Hid (zb [] W1 w5):=qI (hq.then hk5);clear hk5 hq e0 e1 e2 e3 e4 e5 s0 s1 t0 t1)
  go_ret
  exact⟨rfl,HZ.o⟩
end Go.Proofs.YtibnfbglanpoiaaGreatDoor

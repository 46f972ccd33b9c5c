/- Parts of one proof, merged: XCS XBH XBI. -/
import Derived.Test.YtibnfbglanpoiaaGreatDoorQcW
import Derived.Test.YtibnfbglanpoiaaGreatDoorQcV
import Derived.Laws.OwnMore
set_option linter.all false
set_option maxHeartbeats 12800000
set_option maxRecDepth 10000
set_option linter.unusedVariables false
set_option linter.unusedSimpArgs false
set_option linter.unnecessarySimpa false
namespace Go.Proofs.YtibnfbglanpoiaaGreatDoor
open Go.Proofs.Tryz
open Go.RowKit
attribute [local go_sem] Oper.semAt_some
abbrev Q6 (w:World) (g:Nat) (n:Int) (a b c:Value):Prop:=w.heap[g]? = some (.cells #[.int .i64 n,a,b,c] 82 (0,0))
def Zy (w:World) (g:Nat) (n:Int) (a b c:Value):World:=(((w.setCell ⟨g,0,none⟩ (.int .i64 n)).setCell ⟨g,1,none⟩ a).setCell ⟨g,2,none⟩ b).setCell ⟨g,3,none⟩ c
theorem jr (w:World) (g:Nat) (n:Int) (a b c:Value):zb [g] w (Zy w g n a b c):=((((zb.refl [g] w).setCell (.inl (by simp)) _).setCell (.inl (by simp)) _).setCell (.inl (by simp)) _).setCell (.inl (by simp)) _
theorem Zl {w:World}{g:Nat}{c0 c1 c2 c3:Value}{t:Nat}{f:Nat × Nat}(h:w.heap[g]? = some (.cells #[c0,c1,c2,c3] t f)) (n:Int) (a b c:Value):(Zy w g n a b c).heap[g]? = some (.cells #[.int .i64 n,a,b,c] t f):=by
 unfold Zy
 have h1:=ze (i:=0) (v:=.int .i64 n) (d:=#[.int .i64 n,c1,c2,c3]) h rfl
 have h2:=ze (i:=1) (v:=a) (d:=#[.int .i64 n,a,c2,c3]) h1 rfl
 have h3:=ze (i:=2) (v:=b) (d:=#[.int .i64 n,a,b,c3]) h2 rfl
 exact ze (i:=3) (v:=c) (d:=#[.int .i64 n,a,b,c]) h3 rfl
set_option maxRecDepth 100000 in
theorem JD {w:World}(k:zP) (hbk:kx k.bits) (hr:k.root.length=32) {a:Option Addr}{c:Nat}{l:List UInt8}(hb:zp w (.slice a l.length c) l) (hll:l.length≤1000000) :
  Calls Tryz.prog 101 #[.agg (yi k),.slice a l.length c] w fun e w'=>Y6 w w' e k l∧zb [] w w':=by
 obtain⟨W1,Gg⟩:∃ W1,Hid (W1=(w.alloc (.cells (yi k) 47)).alloc (.cells #[.int .i64 0,.slice none 0 0,.slice none 0 0,.slice none 0 0] 82)):=⟨_,qI rfl⟩
 have Gl:Hid (zb [] w W1):=qI (by rw [Gg.o];exact ((zb.refl _ w).alloc _).alloc _)
 have HA:Hid (yt W1 w.heap.size k):=qI (by rw [Gg.o];exact ((zb.refl [] _).alloc _).heap (zd rfl) (by simp))
 have Jv:Hid (Q6 W1 (w.heap.size + 1) 0 (.slice none 0 0) (.slice none 0 0) (.slice none 0 0)):=qI (by rw [Gg.o];exact zd (by simp))
 have hS1:W1.heap.size=w.heap.size + 2:=by rw [Gg.o];simp
 have CM:=qI (j0 k hbk W1)
 have Mv:=qI hr
 have Gp:Hid (∀ (w':World) (e:Ending) (z:Int),z≠0→-1000≤z→z≤1000→¬ (zK k=true∧jS k.bits.toNat k.height.toNat l=true)→e = .returned (.tuple #[.agg #[.int .i64 0,.slice none 0 0,.slice none 0 0,.slice none 0 0],.int .i64 z])→Y6 w w' e k l):=qI (fun w' e z h1 h2 h3 h4 h5=>by unfold Y6;rw [if_neg h4];exact⟨z,h1,h2,h3,h5⟩)
 by_cases hm:zK k=true
 rotate_left
 ·have Ye:Hid (¬ (zK k=true∧jS k.bits.toNat k.height.toNat l=true)):=qI (fun h=>hm h.1)
  have hmf:zK k=false:=by cases h:zK k <;> simp_all
  rw [hmf] at CM
  clear hbk hr hb hll hm hmf
  generalize l.length=ln
  go_enter func101,ntmps101
  go_upto_region 1 with fail
  change Code.wp _ _ _ _ ((w.alloc (.cells (yi k) 47)).alloc (.cells #[.int .i64 0,.slice none 0 0,.slice none 0 0,.slice none 0 0] 82))
  rw [← Gg.o]
  go_wp2_with first
   | (refine zT (by rfl) (.tmp 2) (by rfl) HA.o Mv.o (by rfl) ?_)
   | (go_at_call 35;refine CM.o.mono ?_;rintro e w2 ⟨rfl,hk2⟩;have hb2:=hk2.heap Jv.o (by simp);have Yf:=qI hb2;have r0:=za (o:=0) hb2 rfl;have r1:=za (o:=1) hb2 rfl;have r2:=za (o:=2) hb2 rfl;have r3:=za (o:=3) hb2 rfl;have z:∀ j,w2.frozen? ⟨w.heap.size + 1,j,none⟩=false:=fun j=>zh hb2;have Jd:=qI hk2;clear hk2 hb2)
  change bodyPost _ _ _ _ _ (Zy w2 (w.heap.size + 1) 0 (.slice none 0 0) (.slice none 0 0) (.slice none 0 0))
  have Ga:=jr w2 (w.heap.size + 1) 0 (.slice none 0 0) (.slice none 0 0) (.slice none 0 0)
  have Gb:=Zl Yf.o 0 (.slice none 0 0) (.slice none 0 0) (.slice none 0 0)
  generalize Zy w2 (w.heap.size + 1) 0 (.slice none 0 0) (.slice none 0 0) (.slice none 0 0)=WF at Ga Gb
  have y0:=za (o:=0) Gb rfl
  have y1:=za (o:=1) Gb rfl
  have y2:=za (o:=2) Gb rfl
  have y3:=za (o:=3) Gb rfl
  refine bodyPost_ret (v:=.tuple #[.agg #[.int .i64 0,.slice none 0 0,.slice none 0 0,.slice none 0 0],.int .i64 1]) (by simp [results,results101,go_sem,y0,y1,y2,y3]) rfl ⟨Gp.o _ _ 1 (by decide) (by decide) (by decide) Ye.o rfl,?_⟩
  exact (Gl.o.then Jd.o).trans Ga (by intro i hi;simp at hi;subst hi;exact .inr (by omega))
 rw [hm] at CM
 have hm2:=hm
 unfold zK yA at hm2
 simp only [Bool.and_eq_true,decide_eq_true_eq] at hm2
 obtain⟨nb,hnb⟩:∃ nb:Nat,k.bits=(nb:Int):=⟨k.bits.toNat,by omega⟩
 obtain⟨nh,hnh⟩:∃ nh:Nat,k.height=(nh:Int):=⟨k.height.toNat,by omega⟩
 have hmb:yA nb=true:=by
  unfold zK at hm
  rw [hnb] at hm
  simp only [Bool.and_eq_true] at hm
  exact hm.1
 have hnbI:(nb:Int)≤256:=by omega
 have hnhI:(nh:Int)≤6:=by omega
 have Mw:=qI (And.intro hnb hnh)
 have Yg:=qI hmb
 have Md:=qI hm
 have CF:=qI (fun (w2:World) (hk:zb [] W1 w2)=>from_any (w:=w2) ((hb.kept0 Gl.o).kept0 hk) (by unfold lim;omega))
 obtain⟨R1,Ge⟩:∃ R1,Hid (R1=rdN l):=⟨_,qI rfl⟩
 obtain⟨R2,Gi⟩:∃ R2,Hid (R2=rdB (64 * nb) R1.2.1 R1.2.2):=⟨_,qI rfl⟩
 obtain⟨R3,Gq⟩:∃ R3,Hid (R3=rdB (32 * nh) R2.2.1 R2.2.2):=⟨_,qI rfl⟩
 obtain⟨n2,Gy⟩:∃ n2,Hid (R2.1.length=n2):=⟨_,qI rfl⟩
 obtain⟨n3,Je⟩:∃ n3,Hid (R3.1.length=n3):=⟨_,qI rfl⟩
 have Jf:Hid (R1.2.1.length≤1000000):=qI (by rw [Ge.o];unfold rdN;split <;> simp <;> omega)
 have Me:Hid (R2.2.1.length≤1000000):=qI (by have h9:=Jf.o;rw [Gi.o];unfold rdB;split <;> simp <;> omega)
 have CI:Hid (∀ (w2:World) (p:Nat),jk w2 p l false→Calls Tryz.prog 132 #[.pointer (some ⟨p,0,none⟩),.int .i64 4] w2 fun e w'=>e = .returned (.int .i64 R1.1)∧jk w' p R1.2.1 R1.2.2∧zb [p] w2 w'):=qI (fun w2 p h=>by rw [Ge.o];exact rdInt_any h (by unfold lim;omega))
 have CB1:Hid (∀ (w2:World) (p:Nat),jk w2 p R1.2.1 R1.2.2→Calls Tryz.prog 133 #[.pointer (some ⟨p,0,none⟩),.int .i64 (64 * (nb:Int))] w2 fun e w'=>(∃ a c,e = .returned (.slice a n2 c)∧zp w' (.slice a n2 c) R2.1∧(∀ g,yq (.slice a n2 c)=some g→w2.heap.size≤g))∧jk w' p R2.2.1 R2.2.2∧zb [p] w2 w'):=qI (fun w2 p h=>by
  have h1:=bN h (64 * nb) (by omega) (by have:=Jf.o;unfold lim;omega)
  rw [← Gi.o,Gy.o,show ((64 * nb:Nat):Int)=64 * (nb:Int) by omega] at h1
  exact h1)
 have CB2:Hid (∀ (w2:World) (p:Nat),jk w2 p R2.2.1 R2.2.2→Calls Tryz.prog 133 #[.pointer (some ⟨p,0,none⟩),.int .i64 (32 * (nh:Int))] w2 fun e w'=>(∃ a c,e = .returned (.slice a n3 c)∧zp w' (.slice a n3 c) R3.1∧(∀ g,yq (.slice a n3 c)=some g→w2.heap.size≤g))∧jk w' p R3.2.1 R3.2.2∧zb [p] w2 w'):=qI (fun w2 p h=>by
  have h1:=bN h (32 * nh) (by omega) (by have:=Me.o;unfold lim;omega)
  rw [← Gq.o,Je.o,show ((32 * nh:Nat):Int)=32 * (nh:Int) by omega] at h1
  exact h1)
 have CD:Hid (∀ (w2:World) (p:Nat),jk w2 p R3.2.1 R3.2.2→Calls Tryz.prog 134 #[.pointer (some ⟨p,0,none⟩)] w2 fun e w'=>e = .returned (.int .i64 (if R3.2.2=false∧R3.2.1=[] then 0 else 11))∧w2=w'):=qI (fun w2 p h=>rdDone_any h)
 have Mx:Hid ((R3.2.2=false∧R3.2.1=[])↔l.length=4 + 64 * nb + 32 * nh):=qI (by rw [Gq.o,Gi.o,Ge.o];exact rd_chain _ _ _)
 have Gz:Hid (k.bits.toNat=nb∧k.height.toNat=nh):=qI (by omega)
 have hlb:(R1.1:Int) < 4294967296:=by
  have h1:R1.1 < 4294967296:=by
   rw [Ge.o];unfold rdN
   split
   ·have h2:=numB_lt (l.take 4)
    rw [List.length_take,Nat.min_eq_left (by omega)] at h2
    exact h2
   ·decide
  omega
 clear hm2 hm hnb hnh hmb hb hr hbk
 generalize hD:(if R3.2.2=false∧R3.2.1=[] then (0:Int) else 11)=D at CD
 generalize hln:l.length=ln at CF
 have My:=qI hD
 clear hD
 have De:=qI hln
 clear hln
 refine callsIn_wide.1 (callsIn_of_wp_marks (F:=Fence.wide) (n:=3) func101 rfl trivial ?_ rfl)
 refine wpIn_wide.2 ?_
 simp only [ntmps101,List.size_toArray,List.length_cons,List.length_nil,Nat.reduceAdd,Nat.reduceSub,Array.replicate_succ,Array.replicate_zero,List.push_toArray,List.append_toArray,List.nil_append,List.cons_append]
 go_upto_region 1 with fail
 change Code.wp _ _ _ _ ((w.alloc (.cells (yi k) 47)).alloc (.cells #[.int .i64 0,.slice none 0 0,.slice none 0 0,.slice none 0 0] 82))
 rw [← Gg.o]
 go_upto_region 4 with first
  | (refine zT (by rfl) (.tmp 2) (by rfl) HA.o Mv.o (by rfl) ?_)
  | (go_at_call 35;refine CM.o.mono ?_;rintro e w2 ⟨rfl,hk2⟩;have Jd:=qI hk2;clear hk2)
  | (go_at_call 131;refine (CF.o _ Jd.o).mono ?_;rintro e w3 ⟨⟨p,hp,rfl,hrd⟩,hk3⟩;have Mf:=qI hrd;have Yh:Hid (zb [] W1 w3):=qI (Jd.o.then hk3);have HP:Hid (w.heap.size + 2≤p):=qI (by have:=Jd.o.size;omega);clear hk3 hrd hp)
 go_upto_region 5 with (go_at_call 132;refine (CI.o _ _ Mf.o).mono ?_;rintro e w4 ⟨rfl,hrd,hk4⟩;have Jg:=qI hrd;have Jw:=qI hk4;clear hk4 hrd)
 obtain⟨W5,Mg⟩:∃ W5,Hid (W5=w4.alloc (.cells #[.int .i64 R1.1,.slice none 0 0,.slice none 0 0,.slice none 0 0] 82)):=⟨_,qI rfl⟩
 have HK5a:Hid (zb [] w4 W5):=qI (by rw [Mg.o];exact (zb.refl _ w4).alloc _)
 have Jy:Hid (zb [p] W1 W5):=qI (((Yh.o.mono (by simp)).trans' Jw.o).then HK5a.o)
 have Mh:Hid (Q6 W5 w4.heap.size R1.1 (.slice none 0 0) (.slice none 0 0) (.slice none 0 0)):=qI (by rw [Mg.o];exact zd rfl)
 have Mi:=qI (Jg.o.kept0 HK5a.o)
 have Gf:Hid (p < w4.heap.size):=qI Jg.o.lt
 rw [← Mg.o]
 have Mz:Hid (yt W5 w.heap.size k):=qI (Jy.o.heap HA.o (by have:=HP.o;simp;omega))
 have c0:=Mz.o.c0
 rw [Mw.o.1] at c0
 have Gr:Hid (w4.heap.size < W5.heap.size):=qI (lt_of_block Mh.o)
 generalize hgs:w4.heap.size=gs at Mh Gf Gr
 go_upto_region 6 with (go_at_call 133;refine (CB1.o _ _ Mi.o).mono ?_;rintro e w6 ⟨⟨a6,c6,rfl,hb6,hg6⟩,hrd,hk6⟩;have Yi:=qI hb6;have Yj:=qI hg6;have Mj:=qI hrd;have Jz:=qI hk6;clear hk6 hrd hb6 hg6)
 have Yk:Hid (yt w6 w.heap.size k):=qI (Jz.o.heap Mz.o (by have:=HP.o;simp;omega))
 clear c0
 have c1:=Yk.o.c1
 rw [Mw.o.2] at c1
 go_upto_region 7 with (go_at_call 133;refine (CB2.o _ _ Mj.o).mono ?_;rintro e w7 ⟨⟨a7,c7,rfl,hb7,hg7⟩,hrd,hk7⟩;have Ya:=qI hb7;have Yl:=qI hg7;have Gs:=qI hrd;have Mk:=qI hk7;clear hk7 hrd hb7 hg7)
 clear c1
 have Ml:Hid (Q6 w7 gs R1.1 (.slice none 0 0) (.slice none 0 0) (.slice none 0 0)):=qI (Mk.o.heap (Jz.o.heap Mh.o (by have:=Gf.o;simp;omega)) (by have:=Gf.o;simp;omega))
 have Jh:Hid (zb [p] W1 w7):=qI ((Jy.o.trans' Jz.o).trans' Mk.o)
 have Gm:=qI (Jh.o.heap Jv.o (by have:=HP.o;simp;omega))
 have r0:=za (o:=0) Gm.o rfl
 have r1:=za (o:=1) Gm.o rfl
 have r2:=za (o:=2) Gm.o rfl
 have r3:=za (o:=3) Gm.o rfl
 have z:∀ j,w7.frozen? ⟨w.heap.size + 1,j,none⟩=false:=fun j=>zh Gm.o
 have q0:=za (o:=0) Ml.o rfl
 have Gt:Hid (zb [] w w7):=qI (Gl.o.trans Jh.o (by intro i hi;simp at hi;subst hi;exact .inr (by have:=HP.o;omega)))
 have Ji:Hid (¬ (l.length=4 + 64 * nb + 32 * nh∧R1.1≤1073741824)→¬ (zK k=true∧jS k.bits.toNat k.height.toNat l=true)):=qI (fun h h2=>by
  have h3:=h2.2
  rw [Gz.o.1,Gz.o.2] at h3
  unfold jS at h3
  simp only [Bool.and_eq_true,decide_eq_true_eq] at h3
  refine h ⟨h3.1,?_⟩
  rw [Ge.o,(rd_vals (64 * nb) (32 * nh) l h3.1).1]
  exact h3.2)
 by_cases hok:l.length=4 + 64 * nb + 32 * nh
 rotate_left
 ·have hD11:D=11:=by rw [← My.o];exact if_neg (fun h=>hok (Mx.o.1 h))
  subst hD11
  go_wp2_with (go_at_call 134;refine (CD.o _ _ Gs.o).mono ?_;rintro e w' ⟨rfl,rfl⟩)
  change bodyPostM _ _ _ _ _ _ _ (Zy w7 (w.heap.size + 1) 0 (.slice none 0 0) (.slice none 0 0) (.slice none 0 0))
  have Ga:=jr w7 (w.heap.size + 1) 0 (.slice none 0 0) (.slice none 0 0) (.slice none 0 0)
  have Gb:=Zl Gm.o 0 (.slice none 0 0) (.slice none 0 0) (.slice none 0 0)
  generalize Zy w7 (w.heap.size + 1) 0 (.slice none 0 0) (.slice none 0 0) (.slice none 0 0)=WF at Ga Gb
  have y0:=za (o:=0) Gb rfl
  have y1:=za (o:=1) Gb rfl
  have y2:=za (o:=2) Gb rfl
  have y3:=za (o:=3) Gb rfl
  refine⟨.tuple #[.agg #[.int .i64 0,.slice none 0 0,.slice none 0 0,.slice none 0 0],.int .i64 11],by simp [results,results101,go_sem,y0,y1,y2,y3],Gp.o _ _ 11 (by decide) (by decide) (by decide) (Ji.o (fun h=>hok h.1)) rfl,?_⟩
  exact Gt.o.trans Ga (by intro i hi;simp at hi;subst hi;exact .inr (by omega))
 have hD0:D=0:=by rw [← My.o];exact if_pos (Mx.o.2 hok)
 subst hD0
 by_cases hlf:R1.1≤1073741824
 rotate_left
 ·have hlfI:(1073741824:Int) < R1.1:=by omega
  go_wp2_with (go_at_call 134;refine (CD.o _ _ Gs.o).mono ?_;rintro e w' ⟨rfl,rfl⟩)
  change bodyPostM _ _ _ _ _ _ _ (Zy w7 (w.heap.size + 1) 0 (.slice none 0 0) (.slice none 0 0) (.slice none 0 0))
  have Ga:=jr w7 (w.heap.size + 1) 0 (.slice none 0 0) (.slice none 0 0) (.slice none 0 0)
  have Gb:=Zl Gm.o 0 (.slice none 0 0) (.slice none 0 0) (.slice none 0 0)
  generalize Zy w7 (w.heap.size + 1) 0 (.slice none 0 0) (.slice none 0 0) (.slice none 0 0)=WF at Ga Gb
  have y0:=za (o:=0) Gb rfl
  have y1:=za (o:=1) Gb rfl
  have y2:=za (o:=2) Gb rfl
  have y3:=za (o:=3) Gb rfl
  refine⟨.tuple #[.agg #[.int .i64 0,.slice none 0 0,.slice none 0 0,.slice none 0 0],.int .i64 11],by simp [results,results101,go_sem,y0,y1,y2,y3],Gp.o _ _ 11 (by decide) (by decide) (by decide) (Ji.o (fun h=>hlf h.2)) rfl,?_⟩
  exact Gt.o.trans Ga (by intro i hi;simp at hi;subst hi;exact .inr (by omega))
 have hq:decide ((1073741824:Int) < (R1.1:Int))=false:=decide_eq_false (by omega)
 have Ym:=qI hlf
 obtain⟨v1,v2,v3⟩:=rd_vals (64 * nb) (32 * nh) l hok
 rw [← Ge.o] at v1 v2 v3
 rw [← Gi.o] at v2 v3
 rw [← Gq.o] at v3
 have Yn:Hid (n2=64 * nb):=qI (by rw [← Gy.o,v2,List.length_take,List.length_drop];omega)
 have Jj:Hid (n3=32 * nh):=qI (by rw [← Je.o,v3,List.length_take,List.length_drop];omega)
 have HV:=qI (And.intro v1 (And.intro v2 v3))
 have Jk:Hid (32 * nh≤c7∧c7≤maxLen):=qI (by
  obtain⟨a',c',h3,h4,h5⟩:=Ya.o.form
  simp only [Value.slice.injEq] at h3
  obtain⟨-,-,rfl⟩:=h3
  exact⟨by rw [← Jj.o,← Je.o];exact h4,h5⟩)
 obtain⟨bk,off,Yb,Mm⟩:∃ bk off,Hid (0 < nh→a7=some ⟨bk,off,none⟩)∧Hid (0 < nh→Row w7 bk off (R3.1.map bv)):=by
  rcases Nat.eq_zero_or_pos nh with h0 | h0
  ·exact⟨0,0,qI (fun h=>absurd h (by omega)),qI (fun h=>absurd h (by omega))⟩
  ·obtain⟨g,o,h1,-,h2⟩:=qD (size:=1) (n:=n3) (by have h9:=Ya.o;unfold zp at h9;rw [Je.o] at h9;exact h9) (by rw [Jj.o];omega)
   exact⟨g,o,qI (fun _=>h1),qI (fun _=>h2)⟩
 have CCH:=qI (K0 a7 n3 c7 32 (by decide) (by decide) w7)
 have Mn:=qI (fun (w9:World) (hb9:zp w9 (.slice a6 n2 c6) R2.1)=>(by
  have h9:=JF (w:=w9) (N:=nb) (l:=R2.1) (by rw [Gy.o];exact hb9) (by rw [Gy.o];exact Yn.o) Yg.o
  rw [Gy.o] at h9
  exact h9:_))
 have Mo:=qI hok
 clear v1 v2 v3 hok hlf hlb
 go_wp2_with first
  | (go_at_call 134;refine (CD.o _ _ Gs.o).mono ?_;rintro e w' ⟨rfl,rfl⟩)
  | (go_at_call 135;refine CCH.o.mono ?_;rintro e w' ⟨rfl,rfl⟩)
 obtain⟨W8,Jl⟩:∃ W8,Hid (W8=(w7.alloc (.cells #[.slice a7 n3 c7] 53)).alloc (.cells #[.int .i64 32] 3)):=⟨_,qI rfl⟩
 have Yc:Hid (zb [] w7 W8):=qI (by rw [Jl.o];exact ((zb.refl _ _).alloc _).alloc _)
 have Jm:Hid (W8.heap[w7.heap.size]? = some (.cells #[.slice a7 n3 c7] 53 (0,0))):=qI (by
  rw [Jl.o]
  exact ((zb.refl [] _).alloc _).heap (zd rfl) (by simp))
 have Jn:Hid (W8.heap[w7.heap.size + 1]? = some (.cells #[.int .i64 32] 3 (0,0))):=qI (by
  rw [Jl.o]
  exact zd (by rw [World.size_alloc]))
 have hS8:Hid (W8.heap.size=w7.heap.size + 2):=qI (by rw [Jl.o];simp)
 have Ja:Hid (gs < w7.heap.size):=qI (lt_of_block Ml.o)
 have Yo:Hid (js w7 gs W8 R1.1 none 0 []):=qI ⟨Yc.o.mono (by simp),Yc.o.heap Ml.o (by simp),World.ownsRow_nil _ _ _ _⟩
 rw [← Jl.o]
 refine (wpIn_wide (n:=3)).1 ?_
 refine wpIn_rangeFunc_ownG (F:=Fence.wide) (n:=3) rfl (by decide) (gf:=174) (lb:=#[.pointer (some ⟨w7.heap.size,0,none⟩),.pointer (some ⟨w7.heap.size + 1,0,none⟩)]) rfl trivial (enters_of func174 (by kernel_rfl) rfl)
  (Z2 2 w7.heap.size (w7.heap.size + 1) nh 32 (by decide) (by decide) (by decide) (by omega) a7 bk off c7 Yb.o Jk.o.1 Jk.o.2 W8 (by rw [← Jj.o];exact za Jm.o rfl) (za Jn.o rfl))
  (fun h k=>⟨k.1.trans h.1,k.2.trans h.2⟩) (fun W l o o' hl _ _ _=>⟨World.putObj_heap_other (by have:=hS8.o;omega),World.putObj_heap_other (by have:=hS8.o;omega)⟩) (Below.refl _ _) (fun _=>rfl)
  (fun pre W=>WayR nh R3.1 w7 gs R1.1 w7.heap.size pre W) (fun _ _ _=>False)
  (fun pre A B row hs hg hr=>by
   obtain⟨a1,c1,h⟩:=hs.val
   have hne:∀ k c t f,A.heap[k]? = some (Obj.cells c t f)→B.heap[k]? = some (Obj.cells c t f):=fun k c t f hc=>(hg.block k (lt_of_block hc) (fun e=>by
    obtain⟨ob,h1,h2⟩:=(hr k e.symm).2
    rw [hc] at h1
    cases h1
    cases h2)).trans hc
   obtain⟨d0,f0,e0⟩:=hs.box0
   obtain⟨d1,f1,e1⟩:=hs.box1
   exact⟨⟨a1,c1,h.grown hg (fun k e=>⟨by have:=(hr k e).1;have:=hS8.o;omega,(hr k e).2⟩)⟩,⟨d0,f0,hne _ _ _ _ e0⟩,⟨d1,f1,hne _ _ _ _ e1⟩⟩)
  (fun _ _ _ _ _ hs _ _=>hs)
  ⟨⟨none,0,Yo.o⟩,⟨_,_,Jm.o⟩,⟨_,_,Jn.o⟩⟩
  (fun x=>{ tmps:=#[.agg (yi k),.slice a ln c,.pointer (some ⟨w.heap.size,0,none⟩),undef,.pointer (some ⟨w.heap.size + 1,0,none⟩),.int .i64 0,.pointer (some ⟨p,0,none⟩),.pointer (some ⟨gs,0,none⟩),.slice a6 n2 c6,.slice a7 n3 c7,.slice (some ⟨bk,off + 32 * x.val,none⟩) 32 32,.agg (yi k),.bool true,.bool false,undef,.slice a ln c,.pointer (some ⟨p,0,none⟩),.pointer (some ⟨p,0,none⟩),.int .i64 R1.1,.agg #[.int .i64 R1.1,.slice none 0 0,.slice none 0 0,.slice none 0 0],.pointer (some ⟨p,0,none⟩),.pointer (some ⟨w.heap.size,0,none⟩),.int .i64 nb,.int .i64 (64 * (nb:Int)),.slice a6 n2 c6,.pointer (some ⟨p,0,none⟩),.pointer (some ⟨w.heap.size,1,none⟩),.int .i64 nh,.int .i64 (32 * (nh:Int)),.slice a7 n3 c7,.pointer (some ⟨p,0,none⟩),.int .i64 0,.bool false,.bool false,.pointer (some ⟨gs,0,none⟩),.int .i64 R1.1,.bool false,.bool false,undef,.slice a7 n3 c7,.func (.func 174) #[] #[.pointer (some ⟨w7.heap.size,0,none⟩),.pointer (some ⟨w7.heap.size + 1,0,none⟩)],.slice (some ⟨bk,off + 32 * x.val,none⟩) 32 32,undef,undef,undef,undef,undef,undef,undef,undef,undef,undef,undef,undef,undef,undef,undef],defers:=[] }) ?assign ?body ?done ?stop
 case assign=>
  intro l' x W K hK
  gi_wp2
  exact hK
 case body=>
  rintro l' pre xi W ⟨⟨a3,c3,hpa⟩,⟨d0,e0,hd0⟩,⟨d1',e1,hd1'⟩⟩ hlen
  have Gu:=qI hd0
  have Gv:=qI hd1'
  have Gc:=qI hpa
  have hrw:=Mm.o (by omega)
  have hbg:gs≠bk:=fun e=>by
   have h1:=Yb.o (by omega)
   have h2:=Yl.o bk (by rw [h1];exact jW (by rw [Jj.o];omega))
   have:=Jz.o.size
   have:=Gr.o
   omega
  obtain⟨hr1,hx1⟩:=cut_row (i:=xi.val) (hrw.kept hpa.kept (by simp;exact fun e=>hbg e.symm)) (by rw [Je.o];exact Jj.o) xi.isLt
  have Ma:=qI hx1
  have Jo:=qI hr1
  have Gj:Hid ((pre.map fun i=>(R3.1.drop (32 * i.val)).take 32).length=pre.length):=qI (by simp)
  have f0:W.cell? ⟨gs,3,none⟩=some (.slice a3 pre.length c3):=by
   have h9:=za (o:=3) (v:=.slice a3 (pre.map fun i=>(R3.1.drop (32 * i.val)).take 32).length c3) hpa.box rfl
   rw [Gj.o] at h9
   exact h9
  have Mp:Hid (((pre ++ [xi]).map fun i=>(R3.1.drop (32 * i.val)).take 32)=(pre.map fun i=>(R3.1.drop (32 * i.val)).take 32) ++ [(R3.1.drop (32 * xi.val)).take 32]):=qI (by simp)
  generalize (R3.1.drop (32 * xi.val)).take 32=x1 at Ma Jo Mp
  have Gf:Hid (pre.length≤256):=qI (by omega)
  generalize (pre.map fun i=>(R3.1.drop (32 * i.val)).take 32)=rv at Gc Gj Mp
  generalize pre.length=m at f0 Gj Gf
  generalize off + 32 * xi.val=q at Jo
  clear hpa hx1 hr1 hrw hlen hd0 hd1' r0 r1 r2 r3 z q0 hq
  gi_wp2
  refine jZ (k:=57) 6 [zg.is (.pointer (some ⟨gs,3,none⟩)),
   zg.is (.slice a3 m c3),
   zg.is (.slice (some ⟨bk,q,none⟩) 32 32),
   zg.is (.pointer (some ⟨bk,q,none⟩)),
   zg.is (.agg (x1.map bv).toArray),
   yU (x1.map bv) 1 32] (by kernel_rfl) (by kernel_rfl) (fun⟨_,_,h⟩=>h) rfl (by kernel_rfl) (fun x=>by simp only [List.map,yM,Act.put,List.setIfInBounds_toArray,List.set_cons_zero,List.set_cons_succ];rfl) ?_ ?_
  ·refine⟨fun x w2 hkw b hd=>?_,fun x w2 hkw b hd=>?_,fun x w2 hkw b hd=>?_,fun x w2 hkw b hd=>?_,fun x w2 hkw b hd=>?_,fun x w2 hkw b hd=>?_,trivial⟩
   ·go_wp2_with fail
    exact⟨rfl,zb.refl _ _⟩
   ·have d0:x 0=_:=hd 0 (by kernel_rfl)
    have y0:=hkw.cell f0 (by simp)
    go_wp2_with fail
    exact⟨rfl,zb.refl _ _⟩
   ·go_wp2_with fail
    exact⟨rfl,zb.refl _ _⟩
   ·have d2:x 2=_:=hd 2 (by kernel_rfl)
    have d2:x 2=_:=hd 2 (by kernel_rfl)
    go_wp2_with fail
    rename_i hK
    exact hK _ _ ⟨rfl,_,by simp only [Nat.zero_add,Nat.reduceAdd,d2],rfl,zb.refl _ _⟩
   ·have d3:x 3=_:=hd 3 (by kernel_rfl)
    have d3:x 3=_:=hd 3 (by kernel_rfl)
    change wpList _ _ _ [_] _ _
    refine zR (by rfl) _ rfl (g:=bk) (of:=q) (fun j v hv=>hkw.cell (Jo.o j v hv) (by simp)) Ma.o d3 ?_
    exact⟨rfl,_,rfl,rfl,zb.refl _ _⟩
   ·have d4:x 4=_:=hd 4 (by kernel_rfl)
    have d4:x 4=_:=hd 4 (by kernel_rfl)
    change wpList _ _ _ [_] _ _
    refine yI underlying73 xX bg (by decide) (by decide) (by rfl) _ rfl (cs:=x1.map bv) (by simp [Ma.o]) d4 ?_
    exact⟨rfl,_,rfl,⟨w2.heap.size,rfl,Nat.le_refl _,by simp,zV w2 (x1.map bv) 32 1 _ _ rfl (by simp [Ma.o]) (by decide)⟩,(zb.refl _ _).alloc _⟩
  ·intro x w17 hkw b17 hd hwin
   have d1:x 1=_:=hd 1 (by decide)
   obtain⟨g9,d5,-,-,hsl⟩:=hd 5 (by decide)
   have Jp:=qI hsl
   have Gd:=qI (Gc.o.kept0 hkw)
   have Gh:=qI hkw
   clear hd hwin hkw hsl
   change wpList _ _ _ [_,_,_] _ _
   go_wp2_with (at_builtin;refine zj QG (v:=.slice a3 m c3) (n:=m) (xs:=rv.flatten.map bv) (by have h9:=Gd.o.row;rw [Gj.o] at h9;exact h9) Jp.o (xu _) (by have:=Gf.o;simp only [maxLen];omega) (by have:=Gf.o;omega) Gd.o.kept.size rfl _ _ rfl d1 d5 ?_;intro v6 w18 hown hk6 _ hb6;obtain⟨a8,c8,rfl,-,-⟩:=(Slc.of_row hown).form;have Gw:=qI hk6;obtain⟨u0,uf,ho18⟩:=Gd.o.push (x:=x1) (a5:=a8) (c5:=c8) (by rw [Gj.o];exact hown) (by rw [Gj.o];exact hk6);rw [Gj.o] at u0 ho18;rw [← Mp.o] at ho18;have Gx:=qI ho18;clear hown hk6 hb6 ho18)
   have Ga:zb (gs :: (Value.slice a3 m c3).ownBlock.toList) W (w18.setCell ⟨gs,3,none⟩ (.slice a8 (m + 1) c8)):=
    (((Gh.o.mono (by simp)).trans' (Gw.o.mono (fun k h=>List.mem_cons_of_mem _ h)))).setCell (.inl (by simp)) _
   have hcl:∀ k,k ∈ gs :: (Value.slice a3 m c3).ownBlock.toList→∃ c t f,W.heap[k]? = some (.cells c t f):=fun k hk=>by
    rcases List.mem_cons.1 hk with rfl | hk
    ·exact⟨_,_,_,Gc.o.box⟩
    ·exact ke Gc.o.row (by rw [Gj.o];exact Option.mem_toList.1 hk)
   have hn0:∀ k d t e,W.heap[k]? = some (.cells d t e)→t≠45→k≠gs→k ∉ gs :: (Value.slice a3 m c3).ownBlock.toList:=fun k d t e h1 h2 h3 hk=>by
    rcases List.mem_cons.1 hk with hk | hk
    ·exact h3 hk
    ·have h4:=yd Gc.o.row (by rw [Gj.o];exact Option.mem_toList.1 hk)
     rw [zH h1] at h4
     exact h2 (Nat.add_right_cancel h4)
   have h8:=hn0 _ _ _ _ Gu.o (by decide) (by have:=Ja.o;omega)
   have h9:=hn0 _ _ _ _ Gv.o (by decide) (by have:=Ja.o;omega)
   exact⟨KeepsFrom.of_kept Ga hcl,⟨Ga.block _ (lt_of_block Gu.o) h8,Ga.block _ (lt_of_block Gv.o) h9⟩,⟨⟨a8,c8,Gx.o⟩,⟨_,_,Ga.heap Gu.o h8⟩,⟨_,_,Ga.heap Gv.o h9⟩⟩⟩
 case done=>
  rintro D xs W hD rfl ⟨⟨a3,c3,hpa⟩,-,-⟩ hK
  rw [cut_all] at hpa
  have hlw:(Zv 32 nh R3.1).length=nh:=KW _ _ _
  have Gc:=qI hpa
  have Mb:Hid (w7.heap.size + 2≤D):=qI (by have:=hS8.o;omega)
  have hbox:Q6 W gs R1.1 (.slice none 0 0) (.slice none 0 0) (.slice a3 nh c3):=by
   have h9:=hpa.box
   rw [hlw] at h9
   exact h9
  have Yp:=qI hbox
  have Yq:=qI (hpa.kept.heap Gm.o (by have:=Gf.o;have:=HP.o;simp;omega))
  have Mc:=qI hK
  have Yr:Hid (zp W (.slice a6 n2 c6) R2.1):=qI (by
   have h1:∀ g,yq (.slice a6 n2 c6)=some g→g≠p∧g≠gs:=fun g hg=>by
    have h2:=Yj.o g hg
    have h3:=Gr.o
    have h4:=Gf.o
    omega
   have h5:=Yi.o
   unfold zp at h5 ⊢
   rw [Gy.o] at h5 ⊢
   exact (h5.kept Mk.o (fun g hg=>by simpa using (h1 g hg).1)).kept hpa.kept (fun g hg=>by simpa using (h1 g hg).2))
  have CL:=qI (Mn.o W Yr.o)
  clear hpa hbox hK r0 r1 r2 r3 z q0 hq
  gi_wp2
  go_upto_region 13 with (go_at_call 136;refine CL.o.mono ?_;rintro e w10 ⟨⟨a1,c1,a2,c2,rfl,hs1,hs2,hg1,hg2⟩,hk10⟩;have Ys:=qI hs1;have Yt:=qI hs2;have Yu:=qI hg1;have Yv:=qI hg2;have Gk:=qI hk10;have hb10:=hk10.heap Yp.o (by simp);have g1:=za (o:=1) hb10 rfl;have g2:=za (o:=2) hb10 rfl;have gz:∀ j,w10.frozen? ⟨gs,j,none⟩=false:=fun j=>zh hb10;have Mq:=qI hb10;clear hs1 hs2 hg1 hg2 hk10 hb10)
  have Jb:Hid (zb [gs] w10 ((w10.setCell ⟨gs,1,none⟩ (.slice a1 nb c1)).setCell ⟨gs,2,none⟩ (.slice a2 nb c2))):=qI (((zb.refl [gs] w10).setCell (.inl (by simp)) _).setCell (.inl (by simp)) _)
  have Jq:Hid (Q6 ((w10.setCell ⟨gs,1,none⟩ (.slice a1 nb c1)).setCell ⟨gs,2,none⟩ (.slice a2 nb c2)) gs R1.1 (.slice a1 nb c1) (.slice a2 nb c2) (.slice a3 nh c3)):=qI (by
   have h1:=ze (i:=1) (v:=.slice a1 nb c1) (d:=#[.int .i64 R1.1,.slice a1 nb c1,.slice none 0 0,.slice a3 nh c3]) Mq.o rfl
   exact ze (i:=2) (v:=.slice a2 nb c2) (d:=#[.int .i64 R1.1,.slice a1 nb c1,.slice a2 nb c2,.slice a3 nh c3]) h1 rfl)
  clear g1 g2 gz
  generalize (w10.setCell ⟨gs,1,none⟩ (.slice a1 nb c1)).setCell ⟨gs,2,none⟩ (.slice a2 nb c2)=WG at Jb Jq
  have Jc:=qI (Jb.o.heap (Gk.o.heap Yq.o (by simp)) (by have:=Gf.o;have:=HP.o;simp;omega))
  have g0:=za (o:=0) Jq.o rfl
  have g1:=za (o:=1) Jq.o rfl
  have g2:=za (o:=2) Jq.o rfl
  have g3:=za (o:=3) Jq.o rfl
  have r0:=za (o:=0) Jc.o rfl
  have r1:=za (o:=1) Jc.o rfl
  have r2:=za (o:=2) Jc.o rfl
  have r3:=za (o:=3) Jc.o rfl
  have rz:∀ j,WG.frozen? ⟨w.heap.size + 1,j,none⟩=false:=fun j=>zh Jc.o
  go_wp2_with fail
  change bodyPostM _ _ _ _ _ _ _ (Zy WG (w.heap.size + 1) R1.1 (.slice a1 nb c1) (.slice a2 nb c2) (.slice a3 nh c3))
  have Ga:=jr WG (w.heap.size + 1) R1.1 (.slice a1 nb c1) (.slice a2 nb c2) (.slice a3 nh c3)
  have Gb:=Zl Jc.o R1.1 (.slice a1 nb c1) (.slice a2 nb c2) (.slice a3 nh c3)
  have hKD:(Zy WG (w.heap.size + 1) R1.1 (.slice a1 nb c1) (.slice a2 nb c2) (.slice a3 nh c3)).heap[D]? = some (.deferred (some [])):=Ga.heap (Jb.o.heap (Gk.o.heap Mc.o (by simp)) (by have:=Mb.o;have:=Ja.o;simp;omega)) (by have:=Mb.o;have:=Ja.o;have:=Gf.o;have:=HP.o;simp;omega)
  generalize Zy WG (w.heap.size + 1) R1.1 (.slice a1 nb c1) (.slice a2 nb c2) (.slice a3 nh c3)=WF at Ga Gb hKD
  have Gn:zb [D] WF (WF.putObj D (.deferred none)):=(zb.refl _ _).grown (grownBy_putObj' WF D (.deferred none)) (fun k e=>by cases e;exact .inl (by simp))
  refine⟨by simp,.inl ⟨_,_,rfl,run_takeDeferred hKD,?_⟩⟩
  have Jr:=Gn.heap Gb (by have:=Mb.o;have:=Ja.o;have:=Gf.o;have:=HP.o;simp;omega)
  generalize WF.putObj D (.deferred none)=WZ at Gn Jr
  have y0:=za (o:=0) Jr rfl
  have y1:=za (o:=1) Jr rfl
  have y2:=za (o:=2) Jr rfl
  have y3:=za (o:=3) Jr rfl
  have hWD:W.heap[D]? = some (.deferred (some [])):=Mc.o
  have hord:w.heap.size + 2≤gs∧gs < w7.heap.size∧w7.heap.size + 2≤D:=⟨by have:=Gf.o;have:=HP.o;omega,Ja.o,Mb.o⟩
  have hall:∀ {v:Value}{xs:List Value},Slc w10 32 v nb xs→(∀ g,yq v=some g→W.heap.size≤g)→Slc WZ 32 v nb xs:=fun {v xs} h h2=>by
   have hDW:=lt_of_block hWD
   exact ((h.kept Jb.o (fun g hg hx=>by have:=h2 g hg;simp at hx;omega)).kept Ga (fun g hg hx=>by have:=h2 g hg;simp at hx;omega)).kept Gn (fun g hg hx=>by have:=h2 g hg;simp at hx;omega)
  have hrow3:=Gc.o.row
  rw [hlw] at hrow3
  have hway:Slc WZ 32 (.slice a3 nh c3) nh ((Zv 32 nh R3.1).flatten.map bv):=by
   have hb9:∀ g,yq (.slice a3 nh c3)=some g→w7.heap.size≤g∧g≠D:=fun g hg=>by
    have h1:=ye hg
    refine⟨(hrow3.lt g h1).1,fun e=>?_⟩
    obtain⟨cc,tt,ff,h2⟩:=ke hrow3 h1
    rw [e,hWD] at h2
    cases h2
   exact ((((Slc.of_row hrow3).kept0 Gk.o).kept Jb.o (fun g hg hx=>by have:=(hb9 g hg).1;simp at hx;omega)).kept Ga (fun g hg hx=>by have:=(hb9 g hg).1;simp at hx;omega)).kept Gn (fun g hg hx=>by have:=(hb9 g hg).2;simp at hx;omega)
  have hfit:zK k=true∧jS k.bits.toNat k.height.toNat l=true:=by
   refine⟨Md.o,?_⟩
   rw [Gz.o.1,Gz.o.2]
   unfold jS
   rw [Bool.and_eq_true,decide_eq_true_eq,decide_eq_true_eq,← HV.o.1]
   exact⟨Mo.o,Ym.o⟩
  have hsig:qu nb nh l=⟨R1.1,ZR nb R2.1,Zv 32 nh R3.1⟩:=by
   unfold qu
   rw [HV.o.1,HV.o.2.1,HV.o.2.2]
  refine⟨.tuple #[.agg #[.int .i64 R1.1,.slice a1 nb c1,.slice a2 nb c2,.slice a3 nh c3],.int .i64 0],by simp [results,results101,go_sem,y0,y1,y2,y3],?_,?_⟩
  ·unfold Y6
   rw [if_pos hfit,Gz.o.1,Gz.o.2,hsig]
   exact⟨a1,c1,a2,c2,a3,c3,rfl,hall Ys.o Yu.o,hall Yt.o Yv.o,hway⟩
  ·have h1:zb [] w W:=Gt.o.trans Gc.o.kept (by intro i hi;simp at hi;subst hi;exact .inr (by omega))
   exact (((h1.then Gk.o).trans Jb.o (by intro i hi;simp at hi;subst hi;exact .inr (by omega))).trans Ga (by intro i hi;simp at hi;subst hi;exact .inr (by omega))).trans Gn (by intro i hi;simp at hi;subst hi;exact .inr (by omega))
 case stop=>
  rintro D c' pre W _ _ h _
  exact h.elim
attribute [local go_sem] Oper.semAt_some
set_option maxRecDepth 100000 in
theorem chunk2_in (n l Bs Bn:Nat) (hn:1≤n) (b off cap:Nat) (hcap:2≤cap) (hcap2:cap≤maxLen) (J Jx:List (Fin 1)→World→Prop) (hJd:∀ pre W q,J pre W→J pre (World.drewN W q))
  (hY:∀ pre x W,J pre W→pre.length < 1→YieldAt Fence.wide (n - 1) Tryz.prog l #[.slice (some ⟨b,off,none⟩) 2 2] W fun e W'=>
   (e = .returned (.bool true)∧J (pre ++ [x]) W'∧KpB Bs Bn W W')∨(e = .returned (.bool false)∧Jx (pre ++ [x]) W'))
  (W:World) (hBs:W.cell? ⟨Bs,0,none⟩=some (.slice (some ⟨b,off,none⟩) 2 cap)) (hBn:W.cell? ⟨Bn,0,none⟩=some (.int .i64 2)) (h0:J [] W) :
  CallsIn Fence.wide n Tryz.prog 181 #[.func (.yield l) #[] #[],.pointer (some ⟨Bs,0,none⟩),.pointer (some ⟨Bn,0,none⟩)] W fun e W'=>(∃ v,e = .returned v) ∧
   ((∃ ys,ys=List.finRange 1∧J ys W')∨(∃ pre,True∧Jx pre W')):=by
 refine callsIn_of_wp func181 rfl trivial ?_ rfl
 simp only [ntmps181,List.size_toArray,List.length_cons,List.length_nil,Nat.reduceAdd,Nat.reduceSub,Array.replicate_succ,Array.replicate_zero,List.push_toArray,List.append_toArray,List.nil_append,List.cons_append]
 gi_wp2
 gi_loopw [4,5] (fun i _ wr=>∃ k:Nat,k≤1∧i = .int .i64 (2 * k:Nat)∧J (kO 1 k) wr∧wr.cell? ⟨Bs,0,none⟩=some (.slice (some ⟨b,off,none⟩) 2 cap)∧wr.cell? ⟨Bn,0,none⟩=some (.int .i64 2))
  (fun i _ _=>2 - (intOf i).toNat)
 case atStart=>exact⟨0,Nat.zero_le _,by simp,h0,hBs,hBn⟩
 case round=>
  obtain⟨k,hk,rfl,hJs,c0,c1⟩:=hrel
  by_cases hlt:k < 1
  ·obtain rfl:k=0:=by omega
   have Df:=qI hJs
   have Yw:=qI c0
   have Yx:Hid (∀ q,YieldAt Fence.wide (n - 1) Tryz.prog l #[.slice (some ⟨b,off,none⟩) 2 2] (World.drewN wr q) fun e W'=>(e = .returned (.bool true)∧J (kO 1 1) W'∧KpB Bs Bn (World.drewN wr q) W')∨(e = .returned (.bool false)∧Jx (kO 1 1) W')):=qI (fun q=>by
    have h1:=hY _ ⟨0,hlt⟩ _ (hJd _ _ q hJs) (by rw [Kl hk];exact hlt)
    rw [← Qj hlt] at h1
    exact h1)
   clear hJs hlt hk hY
   have hp2:(2:Int)≤(cap:Int):=by omega
   have hp3:¬ cap=0:=by omega
   have hcm:(cap:Int)≤9223372036854775807:=by have:=hcap2;simp only [maxLen] at this;omega
   simp only [Nat.mul_zero,Int.ofNat_zero]
   gi_wp2
   refine wpIn_wide.2 ?_
   go_quiet (fail)
   obtain⟨fn,tmps,assign,body,hy,hR⟩:=Yx.o nq
   gi_wp2
   refine hR.mono ?_
   rintro e W3 (⟨rfl,hJ3,hk3⟩ | ⟨rfl,hJx3⟩)
   ·have c1':=hk3.c1.trans (show (World.drewN wr nq).cell? ⟨Bn,0,none⟩=_ from c1)
    have Mr:=qI (hk3.c0.trans (show (World.drewN wr nq).cell? ⟨Bs,0,none⟩=_ from Yw.o))
    gi_wp2
    go_roundw
    case rel=>exact⟨1,Nat.le_refl _,by go_num,hJ3,Mr.o,c1'⟩
    case measure=>simp [intOf]
   ·gi_wp2
    refine bodyPost_ret (results_none rfl _ _ _) rfl ?_
    exact⟨⟨_,rfl⟩,.inr ⟨_,trivial,hJx3⟩⟩
  ·obtain rfl:k=1:=by omega
   rw [Q5] at hJs
   simp only [Nat.mul_one]
   gi_wp2
   go_end0
   exact⟨⟨_,rfl⟩,.inl ⟨_,rfl,hJs⟩⟩
theorem chunk2_stops (n Bs Bn:Nat) (hn:1≤n) (b off cap:Nat) (hcap:2≤cap) (hcap2:cap≤maxLen) (w:World) (hBs:w.cell? ⟨Bs,0,none⟩=some (.slice (some ⟨b,off,none⟩) 2 cap)) (hBn:w.cell? ⟨Bn,0,none⟩=some (.int .i64 2)) :
  SeqStopsK Fence.wide n Tryz.prog 181 #[.pointer (some ⟨Bs,0,none⟩),.pointer (some ⟨Bn,0,none⟩)] (fun _:Fin 1=>#[.slice (some ⟨b,off,none⟩) 2 2]) (KpB Bs Bn) (fun ys=>ys=List.finRange 1) (fun _=>True) 1 w:=fun l J Jx W hW hJ _ hY h0=>
 chunk2_in n l Bs Bn hn b off cap hcap hcap2 J Jx (fun pre W q h=>hJ pre W _ none h (Qo W q) (fun r e=>nomatch e)) hY W
  ((hW.cell (p:=⟨Bs,0,none⟩) (World.block_lt_of_cell? w _ hBs)).trans hBs) ((hW.cell (p:=⟨Bn,0,none⟩) (World.block_lt_of_cell? w _ hBn)).trans hBn) h0
theorem chunk2_any (a:Option Addr) (cap:Nat) (w:World) :
  Calls Tryz.prog 144 #[.slice a 2 cap,.int .i64 2] w fun e w'=>e = .returned (.func (.func 181) #[] #[.pointer (some ⟨w.heap.size,0,none⟩),.pointer (some ⟨w.heap.size + 1,0,none⟩)])∧(w.alloc (.cells #[.slice a 2 cap] 73)).alloc (.cells #[.int .i64 2] 3)=w':=by
 go_enter func144,ntmps144
 go_wp2_with fail
 go_ret
 exact⟨rfl,rfl⟩
structure KO (W:World) (g:Nat) (w:World) (a:Option Addr) (c:Nat) (ps:List (List UInt8)):Prop where
 kept:zb [g] W w
 box:w.heap[g]? = some (.cells #[.slice a ps.length c] 73 (0,0))
 row:w.ownsRow W.heap.size 45 32 (.slice a ps.length c) ps.length (ps.flatten.map bv)
theorem KO.kept0 {W w w':World}{g:Nat}{a:Option Addr}{c:Nat}{ps:List (List UInt8)}(h:KO W g w a c ps) (k:zb [] w w'):KO W g w' a c ps:=
 ⟨h.kept.then k,k.heap h.box (by simp),zk h.row k (by simp)⟩
theorem KO.push {W w w':World}{g:Nat}{a:Option Addr}{c:Nat}{ps:List (List UInt8)}(h:KO W g w a c ps) {x:List UInt8}{a5:Option Addr}{c5:Nat}
  (hown:w'.ownsRow W.heap.size 45 32 (.slice a5 (ps.length + 1) c5) (ps.length + 1) (ps.flatten.map bv ++ x.map bv)) (hk:zb (Value.slice a ps.length c).ownBlock.toList w w') :
  w'.cell? ⟨g,0,none⟩=some (.slice a ps.length c)∧w'.frozen? ⟨g,0,none⟩=false∧KO W g (w'.setCell ⟨g,0,none⟩ (.slice a5 (ps.length + 1) c5)) a5 c5 (ps ++ [x]):=by
 have hng:g ∉ (Value.slice a ps.length c).ownBlock.toList:=fun hx=>yL (yd h.row (Option.mem_toList.1 hx)) (zH h.box) (by decide) rfl
 have hb8:=hk.heap h.box hng
 have hst:zb [g] w' (w'.setCell ⟨g,0,none⟩ (.slice a5 (ps.length + 1) c5)):=(zb.refl _ _).setCell (.inl (by simp)) _
 have hel:(ps ++ [x]).length=ps.length + 1:=by simp
 have hef:((ps ++ [x]).flatten).map bv=ps.flatten.map bv ++ x.map bv:=by simp
 refine⟨za hb8 rfl,zh hb8,⟨?_,?_,?_⟩⟩
 ·exact ((h.kept.trans hk (fun i hi=>.inr (h.row.lt i (Option.mem_toList.1 hi)).1))).setCell (.inl (by simp)) _
 ·rw [hel];exact ze hb8 rfl
 ·rw [hel,hef]
  exact zk hown hst (fun b e hx=>by
   simp at hx;subst hx
   exact yL (yd hown e) (zH hb8) (by decide) rfl)
theorem KO.grown {W w w':World}{g:Nat}{a:Option Addr}{c:Nat}{ps:List (List UInt8)}{row:Option Nat}(h:KO W g w a c ps) (hg:w.grownBy w' row) (hr:∀ k,row=some k→W.heap.size≤k∧∃ ob:Obj,w.heap[k]? = some ob∧ob.isCells=false):KO W g w' a c ps:=by
 have hk:zb row.toList w w':=(zb.refl _ w).grown hg (fun k e=>.inl (by simp [e]))
 have hx:∀ k c t f,w.heap[k]? = some (.cells c t f)→k ∉ row.toList:=fun k c t f hc hm=>by
  obtain⟨ob,h1,h2⟩:=(hr k (Option.mem_toList.1 hm)).2
  rw [hc] at h1
  cases h1
  cases h2
 refine⟨h.kept.trans hk (fun i hi=>.inr (hr i (Option.mem_toList.1 hi)).1),hk.heap h.box (hx _ _ _ _ h.box),zk h.row hk (fun b e=>?_)⟩
 obtain⟨c,t,f,h1⟩:=ke h.row e
 exact hx _ _ _ _ h1
structure UpR (nd:List UInt8) (W0:World) (gs:Nat) (pre:List (Fin 1)) (W:World):Prop where
 val:∃ a c,KO W0 gs W a c (pre.map fun _=>nd)
 box0:∃ c f,W.heap[gs + 1]? = some (.cells c 73 f)
 box1:∃ c f,W.heap[gs + 2]? = some (.cells c 3 f)
set_option maxRecDepth 100000 in
theorem up_any {w:World}{bk off cap:Nat}{x0 x1:List UInt8}(h0:x0.length=32) (h1:x1.length=32) (hc:2≤cap) (hcm:cap≤maxLen) (hr0:w.rangeAt bk off (x0.map bv)) (hr1:w.rangeAt bk (off + 32) (x1.map bv)) (hks:xz w) :
  Calls Tryz.prog 107 #[.slice (some ⟨bk,off,none⟩) 2 cap] w fun e w'=>(∃ a c,e = .returned (.slice a 1 c)∧Slc w' 32 (.slice a 1 c) 1 ((xC x0 x1).map bv)∧∀ g,yq (.slice a 1 c)=some g→w.heap.size≤g)∧zb [] w w':=by
 obtain⟨W1,Gg⟩:∃ W1,Hid (W1=w.alloc (.cells #[.slice none 0 0] 73)):=⟨_,qI rfl⟩
 have Gl:Hid (zb [] w W1):=qI (by rw [Gg.o];exact (zb.refl _ w).alloc _)
 have Jv:Hid (W1.heap[w.heap.size]? = some (.cells #[.slice none 0 0] 73 (0,0))):=qI (by rw [Gg.o];exact zd rfl)
 have hS1:W1.heap.size=w.heap.size + 1:=by rw [Gg.o];simp
 have CH:=qI (chunk2_any (some ⟨bk,off,none⟩) cap W1)
 have Js:=qI h0
 have Jt:=qI h1
 have HC:=qI (And.intro hc hcm)
 have Jo:Hid (W1.rangeAt bk off (x0.map bv)):=qI (fun j v hv=>Gl.o.cell (hr0 j v hv) (by simp))
 have Yy:Hid (W1.rangeAt bk (off + 32) (x1.map bv)):=qI (fun j v hv=>Gl.o.cell (hr1 j v hv) (by simp))
 have Yz:=qI (hks.kept0 Gl.o)
 have Da:Hid (0 ∉ [w.heap.size]):=qI (by have:=Zq hks;simp;omega)
 have Yd:Hid (bk < w.heap.size):=qI (World.block_lt_of_cell? w _ (hr0 0 (bv x0[0]) (by simp [h0])))
 have Ms:Hid ((xC x0 x1).length=32):=qI (yP _ _)
 have CN:Hid (∀ w2,zb [w.heap.size] W1 w2→Calls Tryz.prog 145 #[.agg (x0.map bv).toArray,.agg (x1.map bv).toArray] w2 fun e w'=>e = .returned (.agg ((xC x0 x1).map bv).toArray)∧zb [] w2 w'):=qI (fun w2 hk=>QQ w2 x0 x1 Js.o Jt.o (Yz.o.keptX hk Da.o))
 clear h0 h1 hc hcm hr0 hr1 hks
 generalize xC x0 x1=nd at Ms CN ⊢
 refine callsIn_wide.1 (callsIn_of_wp_marks (F:=Fence.wide) (n:=3) func107 rfl trivial ?_ rfl)
 refine wpIn_wide.2 ?_
 simp only [ntmps107,List.size_toArray,List.length_cons,List.length_nil,Nat.reduceAdd,Nat.reduceSub,Array.replicate_succ,Array.replicate_zero,List.push_toArray,List.append_toArray,List.nil_append,List.cons_append]
 go_upto_region 2 with fail
 rw [← Gg.o]
 go_wp2_with (go_at_call 144;refine CH.o.mono ?_;rintro e w' ⟨rfl,rfl⟩)
 obtain⟨W4,Ju⟩:∃ W4,Hid (W4=(W1.alloc (.cells #[.slice (some ⟨bk,off,none⟩) 2 cap] 73)).alloc (.cells #[.int .i64 2] 3)):=⟨_,qI rfl⟩
 have Jw:Hid (zb [] W1 W4):=qI (by rw [Ju.o];exact ((zb.refl _ _).alloc _).alloc _)
 have hS4:W4.heap.size=w.heap.size + 3:=by rw [Ju.o];simp;omega
 have Jm:Hid (W4.heap[w.heap.size + 1]? = some (.cells #[.slice (some ⟨bk,off,none⟩) 2 cap] 73 (0,0))):=qI (by
  rw [Ju.o]
  exact ((zb.refl [] _).alloc _).heap (zd (by omega)) (by simp))
 have Jn:Hid (W4.heap[w.heap.size + 2]? = some (.cells #[.int .i64 2] 3 (0,0))):=qI (by
  rw [Ju.o]
  exact zd (by rw [World.size_alloc];omega))
 have Db:Hid (KO W1 w.heap.size W4 none 0 []):=qI ⟨Jw.o.mono (by simp),Jw.o.heap Jv.o (by simp),World.ownsRow_nil _ _ _ _⟩
 rw [← Ju.o]
 refine (wpIn_wide (n:=3)).1 ?_
 refine wpIn_rangeFunc_ownG (F:=Fence.wide) (n:=3) rfl (by decide) (gf:=181) (lb:=#[.pointer (some ⟨w.heap.size + 1,0,none⟩),.pointer (some ⟨w.heap.size + 1 + 1,0,none⟩)]) rfl trivial (enters_of func181 (by kernel_rfl) rfl)
  (chunk2_stops 2 (w.heap.size + 1) (w.heap.size + 1 + 1) (by decide) bk off cap HC.o.1 HC.o.2 W4 (za Jm.o rfl) (za Jn.o rfl))
  (fun h k=>⟨k.1.trans h.1,k.2.trans h.2⟩) (fun W l o o' hl _ _ _=>⟨World.putObj_heap_other (by omega),World.putObj_heap_other (by omega)⟩) (Below.refl _ _) (fun _=>rfl)
  (fun pre W=>UpR nd W1 w.heap.size pre W) (fun _ _ _=>False)
  (fun pre A B row hs hg hr=>by
   obtain⟨a1,c1,h⟩:=hs.val
   have hne:∀ k c t f,A.heap[k]? = some (Obj.cells c t f)→B.heap[k]? = some (Obj.cells c t f):=fun k c t f hc=>(hg.block k (lt_of_block hc) (fun e=>by
    obtain⟨ob,h1,h2⟩:=(hr k e.symm).2
    rw [hc] at h1
    cases h1
    cases h2)).trans hc
   obtain⟨d0,f0,e0⟩:=hs.box0
   obtain⟨d1,f1,e1⟩:=hs.box1
   exact⟨⟨a1,c1,h.grown hg (fun k e=>⟨by have:=(hr k e).1;omega,(hr k e).2⟩)⟩,⟨d0,f0,hne _ _ _ _ e0⟩,⟨d1,f1,hne _ _ _ _ e1⟩⟩)
  (fun _ _ _ _ _ hs _ _=>hs)
  ⟨⟨none,0,Db.o⟩,⟨_,_,Jm.o⟩,⟨_,_,Jn.o⟩⟩
  (fun x=>{ tmps:=#[.slice (some ⟨bk,off,none⟩) 2 cap,undef,.slice none 0 0,.pointer (some ⟨w.heap.size,0,none⟩),.slice (some ⟨bk,off,none⟩) 2 2,.slice (some ⟨bk,off,none⟩) 2 cap,.func (.func 181) #[] #[.pointer (some ⟨w.heap.size + 1,0,none⟩),.pointer (some ⟨w.heap.size + 1 + 1,0,none⟩)],.slice (some ⟨bk,off,none⟩) 2 2,undef,undef,undef,undef,undef,undef,undef,undef,undef,undef,undef],defers:=[] }) ?assign ?body ?done ?stop
 case assign=>
  intro l' x W K hK
  gi_wp2
  exact hK
 case body=>
  rintro l' pre xi W ⟨⟨a3,c3,hpa⟩,⟨d0,e0,hd0⟩,⟨d1',e1,hd1'⟩⟩ hlen
  have hpre:pre=[]:=List.eq_nil_of_length_eq_zero (by omega)
  subst hpre
  have Gu:=qI hd0
  have Gv:=qI hd1'
  have Gc:=qI hpa
  have f0:W.cell? ⟨w.heap.size,0,none⟩=some (.slice a3 0 c3):=za (o:=0) hpa.box rfl
  have Mt:Hid (W.rangeAt bk off (x0.map bv)):=qI (fun j v hv=>hpa.kept.cell (Jo.o j v hv) (by have:=Yd.o;simp;omega))
  have Mu:Hid (W.rangeAt bk (off + 32) (x1.map bv)):=qI (fun j v hv=>hpa.kept.cell (Yy.o j v hv) (by have:=Yd.o;simp;omega))
  have CNW:Hid (∀ w2,zb [] W w2→Calls Tryz.prog 145 #[.agg (x0.map bv).toArray,.agg (x1.map bv).toArray] w2 fun e w'=>e = .returned (.agg (nd.map bv).toArray)∧zb [] w2 w'):=qI (fun w2 hk=>CN.o w2 (hpa.kept.then hk))
  clear hpa hlen hd0 hd1'
  gi_wp2
  refine jZ (k:=19) 9 [zg.is (.slice a3 0 c3),
   zg.is (.slice (some ⟨bk,off,none⟩) 2 2),
   zg.is (.pointer (some ⟨bk,off,none⟩)),
   zg.is (.agg (x0.map bv).toArray),
   zg.is (.slice (some ⟨bk,off,none⟩) 2 2),
   zg.is (.pointer (some ⟨bk,off + 32,none⟩)),
   zg.is (.agg (x1.map bv).toArray),
   zg.is (.agg (nd.map bv).toArray),
   yU (nd.map bv) 1 32] (by kernel_rfl) (by kernel_rfl) (fun⟨_,_,h⟩=>h) rfl (by kernel_rfl) (fun x=>by simp only [List.map,yM,Act.put,List.setIfInBounds_toArray,List.set_cons_zero,List.set_cons_succ];rfl) ?_ ?_
  ·refine⟨fun x w2 hkw b hd=>?_,fun x w2 hkw b hd=>?_,fun x w2 hkw b hd=>?_,fun x w2 hkw b hd=>?_,fun x w2 hkw b hd=>?_,fun x w2 hkw b hd=>?_,fun x w2 hkw b hd=>?_,fun x w2 hkw b hd=>?_,fun x w2 hkw b hd=>?_,trivial⟩
   ·have y0:=hkw.cell f0 (by simp)
    go_wp2_with fail
    exact⟨rfl,zb.refl _ _⟩
   ·go_wp2_with fail
    exact⟨rfl,zb.refl _ _⟩
   ·have d1:x 1=_:=hd 1 (by kernel_rfl)
    go_wp2_with fail
    exact⟨rfl,zb.refl _ _⟩
   ·have d2:x 2=_:=hd 2 (by kernel_rfl)
    have d2:x 2=_:=hd 2 (by kernel_rfl)
    change wpList _ _ _ [_] _ _
    refine zR (by rfl) _ rfl (g:=bk) (of:=off) (fun j v hv=>hkw.cell (Mt.o j v hv) (by simp)) Js.o d2 ?_
    exact⟨rfl,_,rfl,rfl,zb.refl _ _⟩
   ·go_wp2_with fail
    exact⟨rfl,zb.refl _ _⟩
   ·have d4:x 4=_:=hd 4 (by kernel_rfl)
    go_wp2_with fail
    exact⟨rfl,zb.refl _ _⟩
   ·have d5:x 5=_:=hd 5 (by kernel_rfl)
    have d5:x 5=_:=hd 5 (by kernel_rfl)
    change wpList _ _ _ [_] _ _
    refine zR (by rfl) _ rfl (g:=bk) (of:=off + 32) (fun j v hv=>hkw.cell (Mu.o j v hv) (by simp)) Jt.o d5 ?_
    exact⟨rfl,_,rfl,rfl,zb.refl _ _⟩
   ·have d3:x 3=_:=hd 3 (by kernel_rfl)
    have d6:x 6=_:=hd 6 (by kernel_rfl)
    have d3:x 3=_:=hd 3 (by kernel_rfl)
    have d6:x 6=_:=hd 6 (by kernel_rfl)
    have CX:=CNW.o _ hkw
    go_wp2_with (go_at_call 145;refine CX.mono ?_;rintro e w5 ⟨rfl,hk5⟩;have Jy:=qI hk5;clear hk5)
    exact⟨rfl,Jy.o⟩
   ·have d7:x 7=_:=hd 7 (by kernel_rfl)
    have d7:x 7=_:=hd 7 (by kernel_rfl)
    change wpList _ _ _ [_] _ _
    refine yI underlying73 xX bg (by decide) (by decide) (by rfl) _ rfl (cs:=nd.map bv) (by simp [Ms.o]) d7 ?_
    exact⟨rfl,_,rfl,⟨w2.heap.size,rfl,Nat.le_refl _,by simp,zV w2 (nd.map bv) 32 1 _ _ rfl (by simp [Ms.o]) (by decide)⟩,(zb.refl _ _).alloc _⟩
  ·intro x w17 hkw b17 hd hwin
   have d0:x 0=_:=hd 0 (by decide)
   obtain⟨g9,d8,-,-,hsl⟩:=hd 8 (by decide)
   have Jp:=qI hsl
   have Gd:=qI (Gc.o.kept0 hkw)
   have Gh:=qI hkw
   clear hd hwin hkw hsl
   change wpList _ _ _ [_,_] _ _
   go_wp2_with (at_builtin;refine zj QG (v:=.slice a3 0 c3) (n:=0) (xs:=[]) Gd.o.row Jp.o (xu _) (by simp only [maxLen];omega) (by omega) Gd.o.kept.size rfl _ _ rfl d0 d8 ?_;intro v6 w18 hown hk6 _ hb6;obtain⟨a8,c8,rfl,-,-⟩:=(Slc.of_row hown).form;have Gw:=qI hk6;obtain⟨u0,uf,ho18⟩:=Gd.o.push (x:=nd) (a5:=a8) (c5:=c8) hown hk6;have Gx:=qI ho18;clear hown hk6 hb6 ho18)
   have Ga:zb (w.heap.size :: (Value.slice a3 0 c3).ownBlock.toList) W (w18.setCell ⟨w.heap.size,0,none⟩ (.slice a8 (0 + 1) c8)):=
    (((Gh.o.mono (by simp)).trans' (Gw.o.mono (fun k h=>List.mem_cons_of_mem _ h)))).setCell (.inl (by simp)) _
   have hcl:∀ k,k ∈ w.heap.size :: (Value.slice a3 0 c3).ownBlock.toList→∃ c t f,W.heap[k]? = some (.cells c t f):=fun k hk=>by
    rcases List.mem_cons.1 hk with rfl | hk
    ·exact⟨_,_,_,Gc.o.box⟩
    ·exact ke Gc.o.row (Option.mem_toList.1 hk)
   have hn0:∀ k d t e,W.heap[k]? = some (.cells d t e)→t≠45→k≠w.heap.size→k ∉ w.heap.size :: (Value.slice a3 0 c3).ownBlock.toList:=fun k d t e h1 h2 h3 hk=>by
    rcases List.mem_cons.1 hk with hk | hk
    ·exact h3 hk
    ·have h4:=yd Gc.o.row (Option.mem_toList.1 hk)
     rw [zH h1] at h4
     exact h2 (Nat.add_right_cancel h4)
   have h8:=hn0 _ _ _ _ Gu.o (by decide) (by omega)
   have h9:=hn0 _ _ _ _ Gv.o (by decide) (by omega)
   exact⟨KeepsFrom.of_kept Ga hcl,⟨Ga.block _ (lt_of_block Gu.o) h8,Ga.block _ (lt_of_block Gv.o) h9⟩,⟨⟨a8,c8,Gx.o⟩,⟨_,_,Ga.heap Gu.o h8⟩,⟨_,_,Ga.heap Gv.o h9⟩⟩⟩
 case done=>
  rintro D xs W hD rfl ⟨⟨a3,c3,hpa⟩,-,-⟩ hK
  have hlw:((List.finRange 1).map fun _=>nd).length=1:=rfl
  have hfl:((List.finRange 1).map fun _=>nd).flatten=nd:=by show nd ++ []=nd;exact List.append_nil nd
  have Gc:=qI hpa
  have f0:W.cell? ⟨w.heap.size,0,none⟩=some (.slice a3 1 c3):=za (o:=0) hpa.box rfl
  have Mc:=qI hK
  have Jp:Hid (Slc W 32 (.slice a3 1 c3) 1 (nd.map bv)):=qI (by have h9:=Slc.of_row hpa.row;rw [hlw,hfl] at h9;exact h9)
  have Dc:Hid (∀ g,yq (.slice a3 1 c3)=some g→g≠D):=qI (fun g hg e=>by
   obtain⟨cc,tt,ff,h2⟩:=ke hpa.row (ye hg)
   rw [e,hK] at h2
   cases h2)
  have Dd:Hid (∀ g,yq (.slice a3 1 c3)=some g→w.heap.size≤g):=qI (fun g hg=>by have:=(hpa.row.lt g (ye hg)).1;omega)
  clear hpa hK hlw hfl
  gi_wp2
  go_wp2_with fail
  have Gn:zb [D] W (W.putObj D (.deferred none)):=(zb.refl _ _).grown (grownBy_putObj' W D (.deferred none)) (fun k e=>by cases e;exact .inl (by simp))
  refine⟨by simp,.inl ⟨_,_,rfl,run_takeDeferred Mc.o,?_⟩⟩
  refine⟨.slice a3 1 c3,by simp [results,results107,go_sem],⟨_,_,rfl,Jp.o.kept Gn (fun g hg hx=>by have:=Dc.o g hg;simp at hx;exact this hx),Dd.o⟩,?_⟩
  exact ((Gl.o.trans Gc.o.kept (by intro i hi;simp at hi;subst hi;exact .inr (Nat.le_refl _)))).trans Gn (by intro i hi;simp at hi;subst hi;exact .inr (by omega))
 case stop=>
  rintro D c' pre W _ _ h _
  exact h.elim
attribute [local go_sem] Oper.semAt_some
set_option maxRecDepth 100000 in
theorem ones2_any (w:World):Calls Tryz.prog 143 #[.int .u64 2] w fun e w'=>e = .returned (.int .i64 1)∧w=w':=by
 have CO:Calls Tryz.prog 180 #[.int .u64 2] w fun e w'=>e = .returned (.int .i64 1)∧w=w':=by
  go_enter func180,ntmps180
  go_wp2_with fail
  go_ret
  exact⟨by kernel_rfl,rfl⟩
 go_enter func143,ntmps143
 go_wp2_with (go_at_call 180;refine CO.mono ?_;rintro e w' ⟨rfl,rfl⟩)
 go_ret
 exact⟨rfl,rfl⟩
theorem KK (w:World):Calls Tryz.prog 105 #[.int .i64 2] w fun e w'=>e = .returned (.bool true)∧w=w':=by
 have CO:=ones2_any w
 go_enter func105,ntmps105
 go_wp2_with (go_at_call 143;refine CO.mono ?_;rintro e w' ⟨rfl,rfl⟩)
 go_ret
 exact⟨rfl,rfl⟩
@[go_sem] theorem eqlNil32 (w:World) (a:Option Addr) (n c:Nat):(binOp .eql 73 (.slice a n c) (.slice none 0 0)).run Tryz.prog w = .ok (.bool a.isNone) w:=Lib.run_eql_slice_nil w _ _ a n c 0 0 underlying73
theorem clone32_any {w:World}{ad:Addr}{n c:Nat}{xs:List Value}(h:Slc w 32 (.slice (some ad) n c) n xs) (hx:∀ u ∈ xs,u.oneCell'=true) (hl:n≤1000000) :
  Calls Tryz.prog 106 #[.slice (some ad) n c] w fun e w'=>(∃ a c,e = .returned (.slice a n c)∧w'.ownsRow w.heap.size 45 32 (.slice a n c) n xs)∧zb [] w w':=by
 have h1:=(zb.refl [] w).alloc (.cells #[] 45)
 have hown:=jT (size:=32) (base:=w.heap.size) (t:=45) w rfl (Nat.le_refl _)
 have hsrc:=h.kept0 h1
 go_enter func106,ntmps106
 go_wp2_with (at_builtin;refine zj QG hown hsrc hx (by simp only [maxLen];omega) (by omega) (by simp) rfl _ _ rfl rfl rfl ?_;intro v' w1 hown1 hk1 _ hb1)
 rw [Nat.zero_add,List.nil_append] at hown1
 obtain⟨a',c',rfl,-,-⟩:=(Slc.of_row hown1).form
 go_ret
 exact⟨⟨_,_,rfl,hown1⟩,h1.trans hk1 (by simp [Value.ownBlock])⟩
theorem tyLev:yR Tryz.prog 114 73 1 24 (.slice none 0 0):=⟨underlying114,by kernel_rfl,rfl,by decide⟩
end Go.Proofs.YtibnfbglanpoiaaGreatDoor

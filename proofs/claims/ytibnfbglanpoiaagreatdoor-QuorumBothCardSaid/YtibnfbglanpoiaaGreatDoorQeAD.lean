/- Parts of one proof, merged: XCT. -/
import Derived.Test.YtibnfbglanpoiaaGreatDoorQeAC
set_option linter.all false
set_option maxHeartbeats 12800000
set_option maxRecDepth 100000
namespace Go.Proofs.YtibnfbglanpoiaaGreatDoor
open Go.Proofs.Tryz
open Go.RowKit
attribute [local go_sem] Oper.semAt_some
theorem key_root {w:World}{g:Nat}{k:zY}(h:yw w g k):w.rangeAt g 2 (k.root.map bv):=fun j v hv=>by
 refine za h ?_
 rw [ye,List.getElem?_toArray,kz,show 2+j=j+1+1 by omega,List.getElem?_cons_succ,List.getElem?_cons_succ]
 exact hv
theorem zR.ofs {w:World}{g:Nat}{l:List UInt8}(h:zR w g l):w.rangeAt g 0 (l.map bv):=h.range
theorem sigVerify_any {w:World}(k:zY) (hbk:qX k.bits) (hr:k.root.length=32) (hmk:zI k=true) {am:Option Addr}{cm:Nat}{m:List UInt8}(hbm:zp w (.slice am m.length cm) m) (hm:m.length≤1048576)
  (s:SigS) (hlf:s.leaf≤1073741824) {nb nh:Nat}(hnb:k.bits=nb) (hnh:k.height=nh) (hn1:s.one.rev.length=nb) (hn2:s.one.oth.length=nb) (hn3:s.way.length=nh) (h31:yC s.one.rev) (h32:yC s.one.oth) (h33:yC s.way)
  {a1 a2 a3:Option Addr}{c1 c2 c3:Nat}(hs1:Slc w 32 (.slice a1 nb c1) nb (s.one.rev.flatten.map bv)) (hs2:Slc w 32 (.slice a2 nb c2) nb (s.one.oth.flatten.map bv)) (hs3:Slc w 32 (.slice a3 nh c3) nh (s.way.flatten.map bv)) (hks:xN w) :
  CL w 102 #[.agg (ye k),.slice am m.length cm,.agg #[.int .i64 s.leaf,.slice a1 nb c1,.slice a2 nb c2,.slice a3 nh c3]] (.bool (Z3 k.root m s)):=by
 obtain⟨W1,Ge⟩:∃ W1,Hid (W1=(w.alloc (.cells (ye k) 47)).alloc (.cells #[.int .i64 s.leaf,.slice a1 nb c1,.slice a2 nb c2,.slice a3 nh c3] 82)):=⟨_,qI rfl⟩
 have Gc:Hid (zb [] w W1):=qI (kA2 Ge.o)
 have HA:Hid (yw W1 w.heap.size k):=qI (by rw [Ge.o];exact ((zb.refl [] _).alloc _).heap (zd rfl) Wz)
 have Gd:Hid (vu W1 (w.heap.size+1) s.leaf (.slice a1 nb c1) (.slice a2 nb c2) (.slice a3 nh c3)):=qI (by rw [Ge.o];exact zd Wz)
 have hmb:yv nb=true∧nh≤6:=by
  unfold zI at hmk
  rw [hnb,hnh] at hmk
  simp only [Bool.and_eq_true,decide_eq_true_eq] at hmk
  exact⟨hmk.1,Ws⟩
 have CM:=qI (vJ k hbk W1)
 rw [hmk] at CM
 have Gl:=qI (hks.kept0 Gc.o)
 have CI:Hid (Cq W1 137 #[.slice am m.length cm,.agg #[.slice a1 nb c1,.slice a2 nb c2]] (.tuple #[.agg ((xG m s.one).map bv).toArray,.int .i64 0])):=
  qI (fun w2 hk=>J7 ((hbm.kept0 Gc.o).kept0 hk) hm hn1 hn2 h31 h32 ((hs1.kept0 Gc.o).kept0 hk) ((hs2.kept0 Gc.o).kept0 hk) hmb.1 (Gl.o.kept0 hk))
 have CC:Hid (∀ w2,zb [] W1 w2→Calls Tryz.prog 138 #[.agg ((xG m s.one).map bv).toArray,.int .i64 s.leaf,.slice a3 nh c3] w2 fun e w'=>((s.leaf<2 ^ nh∧e = .returned (.tuple #[.agg ((xQ (xG m s.one) s.leaf s.way).map bv).toArray,.int .i64 0]))∨(¬ s.leaf<2 ^ nh∧e = .returned (.tuple #[.agg z32,.int .i64 1])))∧zb [] w2 w'):=
  qI (fun w2 hk=>climb_any (kK _ _) s.leaf hlf h33 hn3 hmb.2 ((hs3.kept0 Gc.o).kept0 hk) (Gl.o.kept0 hk))
 have Gg:Hid ((xG m s.one).length=32):=qI (kK _ _)
 have Gh:Hid ((xQ (xG m s.one) s.leaf s.way).length=32):=qI (YN _ _ _ (kK _ _))
 have HV:Hid (Z3 k.root m s=(decide (s.leaf<2 ^ nh)&&decide (xQ (xG m s.one) s.leaf s.way=k.root))):=qI (by unfold Z3;rw [hn3])
 have Gm:=qI hr
 have Gn:=qI (And.intro hnb hnh)
 clear hbk hr hmk hbm hm hlf hn1 hn2 hn3 h31 h32 h33 hs1 hs2 hs3 hks hmb hnb hnh
 generalize xQ (xG m s.one) s.leaf s.way=cl at CC Gh HV
 generalize xG m s.one=il at CI CC Gg
 generalize m.length=mn at CI
 generalize hsl:s.leaf=lf at Ge Gd CC HV ⊢
 clear hsl
 have kc0:=HA.o.c0
 have kc1:=HA.o.c1
 rw [Gn.o.1] at kc0
 rw [Gn.o.2] at kc1
 have s0:=za (o:=0) Gd.o rfl
 have s1:=za (o:=1) Gd.o rfl
 have s2:=za (o:=2) Gd.o rfl
 have s3:=za (o:=3) Gd.o rfl
 go_enter func102,ntmps102
 go_upto_region 1 with fail
 refine yq Ge.o ?_
 go_upto_region 3 with first
  | (refine zO Wk (.tmp 3) Wk HA.o Gm.o Wk ?_)
  | (go_at_call 35;refine CM.o.mono ?_;rintro e w2 ⟨rfl,hk2⟩;have y0:=hk2.cell kc0 Wz;have y1:=hk2.cell kc1 Wz;have z0:=hk2.cell s0 Wz;have z1:=hk2.cell s1 Wz;have z2:=hk2.cell s2 Wz;have z3:=hk2.cell s3 Wz;have Gp:=qI hk2;clear hk2 kc0 kc1 s0 s1 s2 s3)
 go_upto_region 6 with first
  | (refine zq Wk (.tmp 7) (.tmp 35) Wk (g:=w3.heap.size) (l0:=xe zu 0) (zd rfl) (zJ _ _) Gg.o Wk Wk ?_;intro w4 h4 hk4;have Gq:=qI h4;have Gr:Hid (zb [] w3 w4):=qI (((zb.refl [] w3).alloc _).trans hk4 (by intro i hi;simp at hi;subst hi;exact .inr (Nat.le_refl _)));clear h4 hk4;simp only [Act.put])
  | (go_at_call 137;refine (CI.o _ Gp.o).mono ?_;rintro e w3 ⟨rfl,hk3⟩;have Gs:=qI (Gp.o.then hk3);clear hk3)
 have Ga:Hid (zb [] W1 w4):=qI (Gs.o.then Gr.o)
 have CD:=CC.o _ Ga.o
 have e0:=Ga.o.cell (za (o:=0) Gd.o rfl) Wz
 have e3:=Ga.o.cell (za (o:=3) Gd.o rfl) Wz
 clear y0 y1 z0 z1 z2 z3
 clear CM CI
 by_cases hlt:lf<2 ^ nh
 ·have Gi:Hid (decide (lf<2 ^ nh)=true):=qI (decide_eq_true hlt)
  have CG:Hid (Cz w4 138 #[.agg (il.map bv).toArray,.int .i64 lf,.slice a3 nh c3] (.tuple #[.agg (cl.map bv).toArray,.int .i64 0])):=qI (CD.mono (fun e w' h=>⟨h.1.elim (fun h=>h.2) (fun h=>absurd hlt h.1),h.2⟩))
  clear CD hlt CC
  go_upto_region 7 with first
   | (refine zP Wk (.tmp 7) Wk Gq.o Gg.o Wk ?_)
   | (refine zq Wk (.tmp 9) (.tmp 46) Wk (g:=w5.heap.size) (l0:=xe zu 0) (zd rfl) (zJ _ _) Gh.o Wk Wk ?_;intro w6 h6 hk6;have Gt:=qI h6;have Gj:Hid (zb [] w5 w6):=qI (((zb.refl [] w5).alloc _).trans hk6 (by intro i hi;simp at hi;subst hi;exact .inr (Nat.le_refl _)));clear h6 hk6;simp only [Act.put])
   | (go_at_call 138;refine CG.o.mono ?_;rintro e w5 ⟨rfl,hk5⟩;have Gf:=qI (Ga.o.then hk5);clear hk5)
  have Gb:Hid (zb [] W1 w6):=qI (Gf.o.then Gj.o)
  have CS:Hid (Cq w6 139 #[.slice (some ⟨w5.heap.size,0,none⟩) 32 32,.slice (some ⟨w.heap.size,2,none⟩) 32 32] (.bool (decide (cl=k.root)))):=
   qI (fun w7 hk=>octSame_any Gh.o Gm.o ((Gt.o.kept0 hk).ofs) (key_root ((HA.o.kept0 Gb.o).kept0 hk)))
  generalize decide (cl=k.root)=res at CS HV
  have Gu:=qI (HA.o.kept0 Gb.o).c0
  clear e0 e3
  go_wp2
  refine zK (n:=56) 8 [fI (.int .i64 0),
   fT,
   fT,
   fI (.slice (some ⟨w5.heap.size,0,none⟩) 32 32),
   fI (.pointer (some ⟨w.heap.size,2,none⟩)),
   fI (.slice (some ⟨w.heap.size,2,none⟩) 32 32),
   fI (.bool res),
   fI (.bool res)] Wr rfl Wr (fun x=>yH) ?_ ?_
  ·refine⟨?_,?_,?_,?_,?_,?_,?_,?_,trivial⟩ <;> intro x w2 hkw b hd
   ·exact ze
   ·have d0:x 0=_:=hd 0 Wr
    exact ze
   ·have d1:x 1=_:=hd 1 Wr
    exact ze
   ·have d2:x 2=_:=hd 2 Wr
    exact ze
   ·have d2:x 2=_:=hd 2 Wr
    exact ze
   ·have d2:x 2=_:=hd 2 Wr
    have d4:x 4=_:=hd 4 Wr
    exact ze
   ·have d2:x 2=_:=hd 2 Wr
    have d3:x 3=_:=hd 3 Wr
    have d5:x 5=_:=hd 5 Wr
    have d2:x 2=_:=hd 2 Wr
    have d3:x 3=_:=hd 3 Wr
    have d5:x 5=_:=hd 5 Wr
    have CX:=CS.o _ hkw
    go_wp2_with (go_at_call 139;refine CX.mh ?_;rintro e w5 rfl Gf)
    exact⟨rfl,Gf.o⟩
   ·have d2:x 2=_:=hd 2 Wr
    have d6:x 6=_:=hd 6 Wr
    exact ze
  ·intro x w17 hkw b17 hd hwin
   have d7:x 7=_:=hd 7 Wo
   have Gk:=qI hkw
   clear hd hwin hkw
   change wpList _ _ _ [_] _ _
   go_wp2_with fail
   go_ret
   exact⟨by rw [HV.o,Gi.o];exact congrArg Ending.returned d7,Gc.o.then (Gb.o.then Gk.o)⟩
 ·have Gi:Hid (decide (lf<2 ^ nh)=false):=qI (decide_eq_false hlt)
  have CG:Hid (Cz w4 138 #[.agg (il.map bv).toArray,.int .i64 lf,.slice a3 nh c3] (.tuple #[.agg z32,.int .i64 1])):=qI (CD.mono (fun e w' h=>⟨h.1.elim (fun h=>absurd h.1 hlt) (fun h=>h.2),h.2⟩))
  clear CD hlt CC
  go_upto_region 7 with first
   | (refine zP Wk (.tmp 7) Wk Gq.o Gg.o Wk ?_)
   | (refine zq Wk (.tmp 9) (.tmp 46) Wk (g:=w5.heap.size) (l:=List.replicate 32 0) (l0:=xe zu 0) (zd rfl) (zJ _ _) Wk Wk Wk ?_;intro w6 h6 hk6;have Gj:Hid (zb [] w5 w6):=qI (((zb.refl [] w5).alloc _).trans hk6 (by intro i hi;simp at hi;subst hi;exact .inr (Nat.le_refl _)));clear h6 hk6;simp only [Act.put])
   | (go_at_call 138;refine CG.o.mono ?_;rintro e w5 ⟨rfl,hk5⟩;have Gf:=qI (Ga.o.then hk5);clear hk5)
  have Gb:Hid (zb [] W1 w6):=qI (Gf.o.then Gj.o)
  clear e0 e3
  go_wp2
  refine zK (n:=56) 8 [fI (.int .i64 1),
   fF,
   fF,
   fU,
   fU,
   fU,
   fU,
   fF] Wr rfl Wr (fun x=>yH) ?_ ?_
  ·refine⟨?_,?_,?_,?_,?_,?_,?_,?_,trivial⟩ <;> intro x w2 hkw b hd
   ·exact ze
   ·have d0:x 0=_:=hd 0 Wr
    exact ze
   ·have d1:x 1=_:=hd 1 Wr
    exact ze
   ·have d2:x 2=_:=hd 2 Wr
    exact ze
   ·have d2:x 2=_:=hd 2 Wr
    exact ze
   ·have d2:x 2=_:=hd 2 Wr
    have d4:x 4=_:=hd 4 Wr
    exact ze
   ·have d2:x 2=_:=hd 2 Wr
    have d3:x 3=_:=hd 3 Wr
    have d5:x 5=_:=hd 5 Wr
    exact ze
   ·have d2:x 2=_:=hd 2 Wr
    have d6:x 6=_:=hd 6 Wr
    exact ze
  ·intro x w17 hkw b17 hd hwin
   have d7:x 7=_:=hd 7 Wo
   have Gk:=qI hkw
   clear hd hwin hkw
   change wpList _ _ _ [_] _ _
   go_wp2_with fail
   go_ret
   exact⟨by rw [HV.o,Gi.o];exact congrArg Ending.returned d7,Gc.o.then (Gb.o.then Gk.o)⟩
end Go.Proofs.YtibnfbglanpoiaaGreatDoor

/- Parts of one proof, merged: XBR. -/
import Derived.Test.YtibnfbglanpoiaaGreatDoorQeAJ
import Derived.Test.YtibnfbglanpoiaaGreatDoorQeAL
set_option linter.all false
set_option maxHeartbeats 12800000
set_option maxRecDepth 100000
namespace Go.Proofs.YtibnfbglanpoiaaGreatDoor
open Go.Proofs.Tryz
open Go.RowKit
open Go.Maps (Keyed)
attribute [local go_sem] Oper.semAt_some
structure Sgn (w:World) (sg:Nat) (sa la:Option Addr) (sc lc mb n:Nat) (M:Lit→Option Value):Prop where
 box:qm w sg (.slice sa 1 sc) (.slice la 2 lc) (k8 xR) (.map (some mb))
 seed:zp w (.slice sa 1 sc) [113]
 leaves:Slc w 32 (.slice la 2 lc) 2 ((qh 2).map bv)
 used:qJ Tryz.prog w 3 mb n M
theorem Sgn.kept0 {w w':World}{sg:Nat}{sa la:Option Addr}{sc lc mb n:Nat}{M:Lit→Option Value}(h:Sgn w sg sa la sc lc mb n M) (k:zb [] w w'):Sgn w' sg sa la sc lc mb n M:=
 ⟨h.box.kept0 k,Slc.kept0 h.seed k,Slc.kept0 h.leaves k,h.used.kept0 k⟩
def setM (M:Lit→Option Value) (i:Nat) (s:ByteArray):Lit→Option Value:=fun z=>if z.sameKey (.int .i64 i) then some (.string s) else M z
def yS (i:Nat) (m:List UInt8):SigS:=⟨i,jA [113] i 8 m,[K0 (kU 0) (kU 1) i]⟩
theorem ZS {w:World}{size:Nat}{v:Value}{n:Nat}{xs:List Value}(h:Slc w size v n xs) (hx:xs≠[]) {g:Nat}(hg:zW v=some g):kind w g≠1:=by
 rcases h.2 with ⟨rfl,_⟩ | ⟨rfl,a,cap,rfl,_⟩ | ⟨g',o,cap,rfl,_,_,hr⟩
 ·simp [zW] at hg
 ·simp [zW] at hg
 ·have hb:=(jo hg).2
  obtain rfl:g'=g:=by simpa [Value.ownBlock] using hb
  obtain⟨x,l,rfl⟩:=List.exists_cons_of_ne_nil hx
  have h0:=hr.cells 0 x rfl
  intro hk
  cases hh:w.heap[g']? with
  | none=>simp [World.cell?,hh] at h0
  | some ob=>cases ob <;> simp [World.cell?,kind,hh] at h0 hk
theorem Kk {w:World}{size:Nat}{v:Value}{n:Nat}{xs:List Value}(h:Slc w size v n xs) {g t:Nat}{arr:Array Value}{f:Nat×Nat}(hb:w.heap[g]? = some (.cells arr t f)) (hx:arr.size<n*size):zW v≠some g:=by
 intro hg
 have hxl:arr.size<xs.length:=by rw [h.1];exact hx
 rcases h.2 with ⟨rfl,_⟩ | ⟨rfl,a,cap,rfl,_⟩ | ⟨g',o,cap,rfl,_,_,hr⟩
 ·simp [zW] at hg
 ·simp [zW] at hg
 ·obtain rfl:g'=g:=by simpa [Value.ownBlock] using (jo hg).2
  have h0:=hr.cells arr.size xs[arr.size] (by simp [hxl])
  simp [World.cell?,hb] at h0
theorem leaves_ne:(qh 2).map bv≠[]:=by
 intro h
 have h1:=congrArg List.length h
 rw [List.length_map,qw,qw,List.length_append,List.length_append,show (kU 1).length=32 from kJ _ _ _] at h1
 simp at h1
theorem Sgn.mapped {w w':World}{sg:Nat}{sa la:Option Addr}{sc lc mb n n':Nat}{M M':Lit→Option Value}(h:Sgn w sg sa la sc lc mb n M) (k:zb [mb] w w') (hm:qJ Tryz.prog w' 3 mb n' M'):Sgn w' sg sa la sc lc mb n' M':=by
 have hk:=h.used.kind
 refine⟨k.heap h.box (fun e=>?_),Slc.kept h.seed k (fun g hg hx=>?_),Slc.kept h.leaves k (fun g hg hx=>?_),hm⟩
 ·rw [List.mem_singleton] at e
  exact xt hk (zM h.box) Wo e.symm
 ·rw [List.mem_singleton] at hx
  subst hx
  exact ZS h.seed Wz hg hk
 ·rw [List.mem_singleton] at hx
  subst hx
  exact ZS h.leaves leaves_ne hg hk
theorem signAt_any {w:World}{sg:Nat}{sa la:Option Addr}{sc lc mb n:Nat}{M:Lit→Option Value}(h:Sgn w sg sa la sc lc mb n M) (hn:n≤100) (i:Nat) (hi:i<2) (hno:M (.int .i64 i)=none) {am:Option Addr}{cm:Nat}{m:List UInt8}(hbm:zp w (.slice am m.length cm) m) (hml:m.length≤1048576) (hks:xN w) :
  Calls Tryz.prog 77 #[.pointer (some ⟨sg,0,none⟩),.int .i64 i,.slice am m.length cm] w fun e w'=>(∃ a1 c1 a2 c2 a3 c3,e = .returned (.tuple #[.agg #[.int .i64 i,.slice a1 8 c1,.slice a2 8 c2,.slice a3 1 c3],.int .i64 0])∧Slc w' 32 (.slice a1 8 c1) 8 ((yS i m).one.rev.flatten.map bv)∧Slc w' 32 (.slice a2 8 c2) 8 ((yS i m).one.oth.flatten.map bv)∧Slc w' 32 (.slice a3 1 c3) 1 ((yS i m).way.flatten.map bv))∧(∃ s,qJ Tryz.prog w' 3 mb (n+1) (setM M i s))∧zb [mb] w w':=by
 obtain⟨W1,Gl⟩:∃ W1,Hid (W1=w.alloc (.cells #[.int .i64 0,.slice none 0 0,.slice none 0 0,.slice none 0 0] 82)):=⟨_,qI rfl⟩
 have Gi:Hid (zb [] w W1):=qI (kA1 Gl.o)
 have Gt:Hid (vu W1 w.heap.size 0 (.slice none 0 0) (.slice none 0 0) (.slice none 0 0)):=qI (by rw [Gl.o];exact zd rfl)
 obtain⟨gl,ol,rfl,-,-⟩:=xy h.leaves Wo
 have HH:=qI (h.kept0 Gi.o)
 have Gp:=qI (hks.kept0 Gi.o)
 have Gm:=qI (Slc.kept0 hbm Gi.o)
 have CM:=qI (JK W1 sg am m.length cm hml)
 have CW:Hid (Calls Tryz.prog 108 #[.slice (some ⟨gl,ol,none⟩) 2 lc,.int .i64 i] W1 fun e w'=>(∃ a c,e = .returned (.tuple #[.slice a 1 c,.int .i64 0])∧Slc w' 32 (.slice a 1 c) 1 ((yS i m).way.flatten.map bv))∧zb [] W1 w'):=qI (by
  have h1:=HH.o.leaves
  rw [show qh 2=kU 0++kU 1 by rw [qw,qw];rfl] at h1
  have h2:=Way_any (kJ _ _ _) (kJ _ _ _) h1 Gp.o i hi
  rw [show (yS i m).way.flatten=K0 (kU 0) (kU 1) i by simp [yS]]
  exact h2)
 have CS:Hid (∀ w3,zb [] W1 w3→Calls Tryz.prog 109 #[.slice sa 1 sc,.int .i64 i,.int .i64 8,.slice am m.length cm] w3 fun e w'=>(∃ a1 c1 a2 c2,e = .returned (.tuple #[.agg #[.slice a1 8 c1,.slice a2 8 c2],.int .i64 0])∧Slc w' 32 (.slice a1 8 c1) 8 ((yS i m).one.rev.flatten.map bv)∧Slc w' 32 (.slice a2 8 c2) 8 ((yS i m).one.oth.flatten.map bv))∧zb [] w3 w'):=qI (fun w3 hk=>lamSign_any (seed:=[113]) (Slc.kept0 HH.o.seed hk) Wo i Ws (Slc.kept0 Gm.o hk) hml (Gp.o.kept0 hk))
 have hw:(Lit.int .i64 i).wf=true:=by
  have h1:IntKind.i64.min = -9223372036854775808:=rfl
  have h2:IntKind.i64.max=9223372036854775807:=rfl
  simp only [Lit.wf,h1,h2,Bool.and_eq_true,decide_eq_true_eq]
  omega
 have Gu:Hid (∀ w2,zb [] W1 w2→(Instr.lookup 72 (.map (some mb)) (.int .i64 i) true).run Tryz.prog w2 = .ok (.tuple #[.string ⟨#[]⟩,.bool false]) w2):=qI (fun w2 hk=>by
  have h1:=((HH.o.used.kept0 hk).at.lookup keyInt underlying72 (z:=.string ⟨#[]⟩) (zeroValue9 w2) (Maps.keyOf_int_mk underlying3 hw)).1
  rw [hno] at h1
  exact h1)
 have Gq:Hid (∀ w2,zb [] W1 w2→∃ w',(Instr.mapUpdate 72 (.map (some mb)) (.int .i64 i) (.string (yc m))).run Tryz.prog w2 = .ok () w'∧qJ Tryz.prog w' 3 mb (n+1) (setM M i (yc m))∧zb [mb] w2 w'):=qI (fun w2 hk=>by
  obtain⟨w',h1,h2,h3,-⟩:=(HH.o.used.kept0 hk).update keyInt underlying72 (by simp only [maxLen];omega) (Maps.keyOf_int_mk underlying3 hw) (.string (yc m))
  rw [hno] at h2
  exact⟨w',h1,h2,h3⟩)
 have Gn:Hid (∀ w2,zb [] W1 w2→(convert 53 9 (.slice am m.length cm)).run Tryz.prog w2 = .ok (.string (yc m)) w2):=qI (fun w2 hk=>zp.toStr (Slc.kept0 Gm.o hk))
 have hr0:(k8 xR).root.length=32:=yP _ _
 have c0:=HH.o.box.c0
 have c1:=HH.o.box.c1
 have c2:W1.cell? ⟨sg,2,none⟩=some (.int .i64 8):=HH.o.box.c2
 have cmp:=qI (HH.o.box.cm hr0)
 have Gr:Hid (mb<w.heap.size):=qI h.used.lt
 have Gv:=qI HH.o.used
 have Gw:=qI hml
 clear hks hbm hml hno hw hr0 h
 generalize hmn:m.length=mn at CM CS Gn Gw ⊢
 generalize yc m=ms at Gq Gn
 clear hmn Gm
 go_enter func77,ntmps77
 go_upto_region 1 with fail
 refine yq Gl.o ?_
 go_upto_region 7 with first
  | (go_at_call 75;refine CM.o.mono ?_;rintro e w' ⟨rfl,rfl⟩)
  | (go_at_call 108;refine CW.o.mono ?_;rintro e w2 ⟨⟨a3,c3,rfl,hs3⟩,hk2⟩;have Gx:=qI hs3;have Gj:=qI hk2;have y0:=hk2.cell c0 Wz;have y2:=hk2.cell c2 Wz;have ym:=hk2.cell cmp.o Wz;clear hs3 hk2 c0 c1 c2)
 have hlk:=Gu.o _ Gj.o
 go_upto_region 10 with fail
 clear hlk
 go_cut [10,13] from 51 to 65 (fun e q wx=>e = .int .i64 0∧∃ (gx:Nat) (a1 a2:Option Addr) (c1 c2:Nat),q = .pointer (some ⟨gx,0,none⟩)∧Hid (wx.heap[gx]? = some (.cells #[.slice a1 8 c1,.slice a2 8 c2] 80 (0,0)))∧Hid (Slc wx 32 (.slice a1 8 c1) 8 ((yS i m).one.rev.flatten.map bv))∧Hid (Slc wx 32 (.slice a2 8 c2) 8 ((yS i m).one.oth.flatten.map bv))∧Hid (zb [] w2 wx))
 case first=>
  have z0:=((zb.refl [] w2).alloc (.cells #[.slice none 0 0,.slice none 0 0] 80)).cell y0 Wz
  have z2:=((zb.refl [] w2).alloc (.cells #[.slice none 0 0,.slice none 0 0] 80)).cell y2 Wz
  go_region_law (go_simp;go_at_call 109;first | (refine (CS.o _ Gj.o.drew).mono ?_;rintro e w8 ⟨⟨a1,c1,a2,c2,rfl,hs1,hs2⟩,hk8⟩;have Gd:=qI hs1;have Ge:=qI hs2;have Ga:=qI ((zb.refl [] w2).drew.then hk8);clear hs1 hs2 hk8) | (refine (CS.o _ (Gj.o.alloc _).drew).mono ?_;rintro e w8 ⟨⟨a1,c1,a2,c2,rfl,hs1,hs2⟩,hk8⟩;have Gd:=qI hs1;have Ge:=qI hs2;have hbx:=hk8.heap (show ((w2.alloc (.cells #[.slice none 0 0,.slice none 0 0] 80)).drew).heap[w2.heap.size]? = some (.cells #[.slice none 0 0,.slice none 0 0] 80 (0,0)) from zd rfl) Wz;have b0:=za (o:=0) hbx rfl;have b1:=za (o:=1) hbx rfl;have bz:∀ j,w8.frozen? ⟨w2.heap.size,j,none⟩=false:=fun j=>zh hbx;have Gg:=qI hbx;have Ga:=qI (((zb.refl [] w2).alloc _).drew.then hk8);clear hs1 hs2 hbx hk8))
  all_goals go_wp2_with fail
  all_goals go_meet
  all_goals first
   | exact⟨rfl,_,a1,a2,c1,c2,rfl,qI (zd rfl),qI (Slc.kept0 Gd.o (Wd.alloc _)),qI (Slc.kept0 Ge.o (Wd.alloc _)),qI (Ga.o.alloc _)⟩
   | exact⟨rfl,_,a1,a2,c1,c2,rfl,qI (Kp Gg.o _ _),qI (Slc.kept Gd.o (jQ _ _ _ _) (fun g hg hx=>Kk Gd.o Gg.o Wo (by rw [List.mem_singleton] at hx;rw [← hx];exact hg))),qI (Slc.kept Ge.o (jQ _ _ _ _) (fun g hg hx=>Kk Ge.o Gg.o Wo (by rw [List.mem_singleton] at hx;rw [← hx];exact hg))),qI (Ga.o.trans (jQ _ _ _ _) (by intro b hb;rw [List.mem_singleton] at hb;subst hb;exact .inr (Nat.le_refl _)))⟩
 case rest=>
  obtain⟨rfl,gx,a1,a2,c1,c2,rfl,Gg,Gd,Ge,Gs⟩:=hcut
  have Gf:=qI (Gj.o.then Gs.o)
  have z3:=Gf.o.cell cmp.o Wz
  go_upto_region 13 with fail
  refine zK (n:=81) 7 [fI (.pointer (some ⟨sg,0,none⟩)),
   fI (.pointer (some ⟨sg,0,none⟩)),
   fI (.pointer (some ⟨sg,36,none⟩)),
   fI (.map (some mb)),
   fI (.int .i64 i),
   fI (.slice am mn cm),
   fI (.string ms)] Wr rfl Wr (fun x=>yH) ?_ ?_
  ·refine⟨?_,?_,?_,?_,?_,?_,?_,trivial⟩ <;> intro x w2 hkw b hd
   ·exact ze
   ·have d0:x 0=_:=hd 0 Wr
    exact ze
   ·have d1:x 1=_:=hd 1 Wr
    exact ze
   ·have d2:x 2=_:=hd 2 Wr
    have y0:=hkw.cell z3 Wz
    exact ze
   ·exact ze
   ·exact ze
   ·have d5:x 5=_:=hd 5 Wr
    have cv:=Gn.o w2 (Gf.o.then hkw)
    exact ze
  ·intro x w7 hkw b7 hd hwin
   have d3:x 3=_:=hd 3 Wo
   have d4:x 4=_:=hd 4 Wo
   have d6:x 6=_:=hd 6 Wo
   have Gb:=qI hkw
   clear hd hwin hkw
   change wpList _ _ _ [_] _ _
   obtain⟨w8,hrun,hM8,hk8⟩:=Gq.o w7 (Gf.o.then Gb.o)
   have Gy:=qI hM8
   have Ga:=qI hk8
   clear hM8 hk8
   have hkm:kind w7 mb=1:=(Gv.o.kept0 (Gf.o.then Gb.o)).kind
   have hb7:=Gb.o.heap Gg.o Wz
   have hb8:=Ga.o.heap hb7 (fun e=>by rw [List.mem_singleton] at e;exact xt hkm (zM hb7) Wo e.symm)
   have Gc:=qI (Ga.o.heap ((Gf.o.then Gb.o).heap Gt.o Wz) (by have:=Gr.o;simp;omega))
   have q0:=za (o:=0) hb8 rfl
   have q1:=za (o:=1) hb8 rfl
   have r0:=za (o:=0) Gc.o rfl
   have r1:=za (o:=1) Gc.o rfl
   have r2:=za (o:=2) Gc.o rfl
   have r3:=za (o:=3) Gc.o rfl
   have rz:∀ j,w8.frozen? ⟨w.heap.size,j,none⟩=false:=fun j=>zh Gc.o
   have Gz:=qI hkm
   clear hb7 hb8 hkm z3
   go_wp2_with fail
   change bodyPost _ _ _ _ _ (vE w8 w.heap.size i (.slice a1 8 c1) (.slice a2 8 c2) (.slice a3 1 c3))
   have Gk:=qS w8 w.heap.size i (.slice a1 8 c1) (.slice a2 8 c2) (.slice a3 1 c3)
   have Gh:=jE Gc.o i (.slice a1 8 c1) (.slice a2 8 c2) (.slice a3 1 c3)
   generalize vE w8 w.heap.size i (.slice a1 8 c1) (.slice a2 8 c2) (.slice a3 1 c3)=WF at Gk Gh
   have y0:=za (o:=0) Gh rfl
   have y1:=za (o:=1) Gh rfl
   have y2:=za (o:=2) Gh rfl
   have y3:=za (o:=3) Gh rfl
   have hall:∀ {v:Value}{k:Nat}{xs:List Value},Slc w7 32 v k xs→0<k→Slc WF 32 v k xs:=fun {v k xs} hs hk=>by
    have hne:xs≠[]:=fun e=>by have:=hs.1;rw [e] at this;simp at this;omega
    have h8:=Slc.kept hs Ga.o (fun g hg hx=>by
     rw [List.mem_singleton] at hx
     subst hx
     exact ZS hs hne hg Gz.o)
    exact Slc.kept h8 Gk (fun g hg hx=>by
     rw [List.mem_singleton] at hx
     subst hx
     exact Kk h8 Gc.o (by simp;omega) hg)
   refine bodyPost_ret (v:=.tuple #[.agg #[.int .i64 i,.slice a1 8 c1,.slice a2 8 c2,.slice a3 1 c3],.int .i64 0]) (by simp [results,results77,go_sem,y0,y1,y2,y3]) rfl ?_
   refine⟨⟨a1,c1,a2,c2,a3,c3,rfl,hall (Slc.kept0 Gd.o Gb.o) Wo,hall (Slc.kept0 Ge.o Gb.o) Wo,hall (Slc.kept0 Gx.o (Gs.o.then Gb.o)) Wo⟩,⟨ms,Gy.o.kept Gk (by have:=Gr.o;simp;omega)⟩,?_⟩
   have hK17:zb [mb] w w8:=((Gi.o.then (Gf.o.then Gb.o)).mono Wz).trans' Ga.o
   exact hK17.trans Gk (by intro b hb;rw [List.mem_singleton] at hb;subst hb;exact .inr (Nat.le_refl _))
end Go.Proofs.YtibnfbglanpoiaaGreatDoor

/- Parts of one proof, merged: XIC XVM XVO XUA. -/
import Derived.Test.YtibnfbglanpoiaaGreatDoorQcO
import Derived.Test.YtibnfbglanpoiaaGreatDoorQcK
import Derived.Test.YtibnfbglanpoiaaGreatDoorQcG
import Derived.Lib.MapU
import Derived.Lib.SlTrimSet
import Derived.Lib.Bytealg
import Derived.Test.YtibnfbglanpoiaaGreatDoorQcM
import Derived.Laws.BitsLemmas
set_option linter.all false
set_option maxHeartbeats 12800000
set_option maxRecDepth 10000
set_option linter.unusedVariables false
set_option linter.unusedSimpArgs false
set_option linter.unnecessarySimpa false
namespace Go.Proofs.YtibnfbglanpoiaaGreatDoor
open Go.Proofs.Tryz
open Go.RowKit
def xU (l:List UInt8):ByteArray:=yc (kq l)
def jO (k:zP):V 2:=(Ze [(⟨#[98,105,116,115]⟩,(YA k.bits:VS (V 0))),(⟨#[104,101,105,103,104,116]⟩,YA k.height),(⟨#[112,117,98,108,105,99]⟩,qE (xU k.root))]:VS (V 1))
def qG (k:zP):V 3:=(Ze [(⟨#[107,101,121,116,121,112,101]⟩,(qE ⟨#[108,97,109,112,111,114,116,45,109,101,114,107,108,101]⟩:VS (V 1))),(⟨#[115,99,104,101,109,101]⟩,qE ⟨#[115,104,97,50,53,54]⟩),(⟨#[107,101,121,118,97,108]⟩,jO k)]:VS (V 2))
theorem qW (l:List UInt8):(xU l).size=2 * l.length:=by rw [xU,xA,jw]
theorem Y7 (k:zP) (h:k.root.length=32):yk 2 (jO k):=by
 have e:=qW k.root
 have e2:ya 2 (jO k)=0 + (4 + (6 + (6 + 0))) + ((0 + 0 + 0) + ((0 + 0 + 0) + (((xU k.root).size + 0 + 0) + 0))):=rfl
 exact⟨by show (4:Nat)≤20000;omega,by rw [e2,e,h];omega⟩
theorem zau (k:zP) (h:k.root.length=32):yk 3 (qG k):=by
 have e:=(Y7 k h).2
 have e2:ya 3 (qG k)=0 + (7 + (6 + (6 + 0))) + ((14 + 0 + 0) + ((6 + 0 + 0) + (ya 2 (jO k) + 0))):=rfl
 have e3:ya 2 (jO k)=0 + (4 + (6 + (6 + 0))) + ((0 + 0 + 0) + ((0 + 0 + 0) + (((xU k.root).size + 0 + 0) + 0))):=rfl
 have e4:=qW k.root
 exact⟨by show (7:Nat)≤20000;omega,by rw [e2,e3,e4,h];omega⟩
def vZ (w w':World) (e:Ending) (k:zP):Prop:=if zK k=true then New 3 w w' e (qG k) else e = .returned ZG
theorem may_wf {k:zP}(h:zK k=true):kx k.bits∧kx k.height:=by
 unfold zK yA at h
 simp only [Bool.and_eq_true,decide_eq_true_eq] at h
 exact⟨⟨by omega,by omega⟩,by omega,by omega⟩
def newFact (n:Nat) (v:V n):zg (zb []):=⟨fun u b w=>∃ k m s p i c q j d,u = .agg #[.int .i64 k,.int .i64 m,.string s,.slice p i c,.slice q j d]∧kW n (fun g=>b.1≤g∧g < b.2) w [.int .i64 k,.int .i64 m,.string s,.slice p i c,.slice q j d] v,fun _ _ _ _ ⟨k,m,s,p,i,c,q,j,d,h1,h2⟩ kk=>⟨k,m,s,p,i,c,q,j,d,h1,h2.kept0 kk⟩⟩
theorem Q7 {n:Nat}{w w':World}{e:Ending}{v:V n}(h:New n w w' e v):∃ k m s p i c q j d,e = .returned (.agg #[.int .i64 k,.int .i64 m,.string s,.slice p i c,.slice q j d])∧kW n (fun g=>w.heap.size≤g∧g < w'.heap.size) w' [.int .i64 k,.int .i64 m,.string s,.slice p i c,.slice q j d] v:=by
 obtain⟨cs,rfl,h⟩:=h
 obtain⟨k,m,s,p,i,c,q,j,d,rfl⟩:=h.rep.conv
 exact⟨k,m,s,p,i,c,q,j,d,rfl,h⟩
theorem keyValue_any (k:zP) (hb:kx k.bits) (hr:k.root.length=32) (w:World):Calls Tryz.prog 81 #[.agg (yi k)] w fun e w'=>vZ w w' e k∧zb [] w w':=by
 obtain⟨W0,Gl⟩:∃ W0,Hid (W0=(w.alloc (.cells (yi k) 47)).alloc (.cells #[.int .i64 0,.int .i64 0,.string ⟨#[]⟩,.slice none 0 0,.slice none 0 0] 25)):=⟨_,qI rfl⟩
 have Gp:Hid (zb [] w W0):=qI (by rw [Gl.o];exact ((zb.refl _ w).alloc _).alloc _)
 have HA:Hid (yt W0 w.heap.size k):=qI (by rw [Gl.o];exact ((zb.refl [] _).alloc _).heap (zd rfl) (by simp))
 have Ja:Hid (W0.heap[w.heap.size + 1]? = some (.cells #[.int .i64 0,.int .i64 0,.string ⟨#[]⟩,.slice none 0 0,.slice none 0 0] 25 (0,0))):=qI (by rw [Gl.o];exact zd (by simp))
 have Gq:Hid (w.heap.size≤W0.heap.size):=qI Gp.o.size
 have Jb:Hid (W0.heap.size=w.heap.size + 2):=qI (by rw [Gl.o];simp)
 have CM:=qI (j0 k hb W0)
 have Gc:=qI hr
 clear hb hr
 have Jc:Hid (∀ w2:World,zb [] W0 w2→Calls Tryz.prog 44 #[.slice (some ⟨w.heap.size,2,none⟩) 32 32] w2 fun e w'=>e = .returned (.string (xU k.root))∧zb [] w2 w'):=qI (fun w2 hk=>by
  have h1:=QH (w:=w2) (l:=k.root) (by rw [Gc.o];exact (HA.o.root Gc.o).kept0 hk) (by rw [Gc.o];decide) (by intro e;have:=Gc.o;rw [e] at this;cases this)
  rw [Gc.o] at h1
  exact h1)
 obtain⟨hs,Jd⟩:∃ hs,Hid (hs=xU k.root):=⟨_,qI rfl⟩
 rw [← Jd.o] at Jc
 have Jf:Hid (zK k=true→kx k.bits∧kx k.height):=qI may_wf
 by_cases hm:zK k=true
 rotate_left
 ·have hm2:zK k=false:=by simpa using hm
  rw [hm2] at CM
  have Gr:Hid (∀ w' e,vZ w w' e k=(e = .returned ZG)):=qI (fun w' e=>by unfold vZ;rw [if_neg hm])
  clear hm hm2
  go_enter func81,ntmps81
  go_upto_region 1 with fail
  rw [← Gl.o]
  go_wp2_with first
   | (refine zT (by rfl) (.tmp 1) (by rfl) HA.o Gc.o (by rfl) ?_)
   | (go_at_call 35;refine CM.o.mono ?_;rintro e w1 ⟨rfl,hk1⟩;have Gb:=qI hk1;have Gh:=qI (hk1.heap Ja.o (by simp));have r0:=za (o:=0) (v:=.int .i64 0) Gh.o rfl;have r1:=za (o:=1) (v:=.int .i64 0) Gh.o rfl;have r2:=za (o:=2) (v:=.string ⟨#[]⟩) Gh.o rfl;have r3:=za (o:=3) (v:=.slice none 0 0) Gh.o rfl;have r4:=za (o:=4) (v:=.slice none 0 0) Gh.o rfl;have z:∀ j,w1.frozen? ⟨w.heap.size + 1,j,none⟩=false:=fun j=>zh Gh.o;clear hk1)
  change bodyPost _ _ _ _ _ (vG w1 (w.heap.size + 1) 0 0 ⟨#[]⟩ (.slice none 0 0) (.slice none 0 0))
  have Gd:=kN w1 (w.heap.size + 1) 0 0 ⟨#[]⟩ (.slice none 0 0) (.slice none 0 0)
  have Gi:=jU Gh.o 0 0 ⟨#[]⟩ (.slice none 0 0) (.slice none 0 0)
  revert Gd Gi
  generalize vG w1 (w.heap.size + 1) 0 0 ⟨#[]⟩ (.slice none 0 0) (.slice none 0 0)=WF
  intro Gd Gi
  obtain⟨y0,y1,y2,y3,y4⟩:=k7 Gi
  exact bodyPost_ret (v:=ZG) (by simp [results,results81,go_sem,y0,y1,y2,y3,y4,ZG]) rfl ⟨by rw [Gr.o],((Gp.o.then Gb.o).trans Gd (by intro i hi;simp at hi;subst hi;exact .inr (by simp)))⟩
 rw [hm] at CM
 have Gr:Hid (∀ w' e,vZ w w' e k=New 3 w w' e (qG k)):=qI (fun w' e=>by unfold vZ;rw [if_pos hm])
 have Je:=qI (Jf.o hm)
 clear hm
 go_enter func81,ntmps81
 go_upto_region 1 with fail
 rw [← Gl.o]
 go_upto_region 3 with first
  | (refine zT (by rfl) (.tmp 1) (by rfl) HA.o Gc.o (by rfl) ?_)
  | (go_at_call 35;refine CM.o.mono ?_;rintro e w1 ⟨rfl,hk1⟩;have Gb:=qI hk1;clear hk1)
 have Jg:Hid (w.heap.size≤w1.heap.size):=qI (Nat.le_trans Gq.o Gb.o.size)
 have Jh:Hid (∀ (g:Nat) (w2:World),zb [] w1 w2→Slc w2 6 (.slice (some ⟨g,0,none⟩) 3 3) 3 [.string ⟨#[98,105,116,115]⟩,.int .i64 3,.int .i64 k.bits,.string ⟨#[]⟩,.slice none 0 0,.slice none 0 0,.string ⟨#[104,101,105,103,104,116]⟩,.int .i64 3,.int .i64 k.height,.string ⟨#[]⟩,.slice none 0 0,.slice none 0 0,.string ⟨#[112,117,98,108,105,99]⟩,.int .i64 4,.int .i64 0,.string hs,.slice none 0 0,.slice none 0 0]→Calls Tryz.prog 112 #[.slice (some ⟨g,0,none⟩) 3 3] w2 fun e w'=>New 2 w2 w' e (jO k)∧zb [] w2 w'):=qI (fun g w2 hk hs2=>by
  refine Kb (n:=1) (S:=fun _=>True) (m:=(jO k).m) (mcs:=[(⟨#[98,105,116,115]⟩,[.int .i64 3,.int .i64 k.bits,.string ⟨#[]⟩,.slice none 0 0,.slice none 0 0]),(⟨#[104,101,105,103,104,116]⟩,[.int .i64 3,.int .i64 k.height,.string ⟨#[]⟩,.slice none 0 0,.slice none 0 0]),(⟨#[112,117,98,108,105,99]⟩,[.int .i64 4,.int .i64 0,.string hs,.slice none 0 0,.slice none 0 0])]) hs2 ?_ (Y7 k Gc.o)
  exact zI.cons ⟨rfl,QL (n:=0) _ _ _ Je.o.1⟩ (zI.cons ⟨rfl,QL (n:=0) _ _ _ Je.o.2⟩ (zI.cons ⟨rfl,by rw [Jd.o];exact vf (n:=0) _ _ _⟩ (zI.nil _))))
 refine zZ (n:=31) 16 [zg.is (.pointer (some ⟨w.heap.size,0,none⟩)),
  zg.is (.int .i64 k.bits),
  zg.is (.agg #[.int .i64 3,.int .i64 k.bits,.string ⟨#[]⟩,.slice none 0 0,.slice none 0 0]),
  zg.is (.agg #[.string ⟨#[98,105,116,115]⟩,.int .i64 3,.int .i64 k.bits,.string ⟨#[]⟩,.slice none 0 0,.slice none 0 0]),
  zg.is (.pointer (some ⟨w.heap.size,1,none⟩)),
  zg.is (.int .i64 k.height),
  zg.is (.agg #[.int .i64 3,.int .i64 k.height,.string ⟨#[]⟩,.slice none 0 0,.slice none 0 0]),
  zg.is (.agg #[.string ⟨#[104,101,105,103,104,116]⟩,.int .i64 3,.int .i64 k.height,.string ⟨#[]⟩,.slice none 0 0,.slice none 0 0]),
  zg.is (.pointer (some ⟨w.heap.size,2,none⟩)),
  zg.is (.slice (some ⟨w.heap.size,2,none⟩) 32 32),
  zg.is (.string hs),
  zg.is (.agg #[.int .i64 4,.int .i64 0,.string hs,.slice none 0 0,.slice none 0 0]),
  zg.is (.agg #[.string ⟨#[112,117,98,108,105,99]⟩,.int .i64 4,.int .i64 0,.string hs,.slice none 0 0,.slice none 0 0]),
  yU [.string ⟨#[98,105,116,115]⟩,.int .i64 3,.int .i64 k.bits,.string ⟨#[]⟩,.slice none 0 0,.slice none 0 0,.string ⟨#[104,101,105,103,104,116]⟩,.int .i64 3,.int .i64 k.height,.string ⟨#[]⟩,.slice none 0 0,.slice none 0 0,.string ⟨#[112,117,98,108,105,99]⟩,.int .i64 4,.int .i64 0,.string hs,.slice none 0 0,.slice none 0 0] 3 6,
  newFact 2 (jO k),
  boxFact 25] (by kernel_rfl) rfl (by kernel_rfl) (fun x=>by simp only [List.map,yM,Act.put,List.setIfInBounds_toArray,List.set_cons_zero,List.set_cons_succ];rfl) ?_ ?_
 ·refine⟨fun x w2 hkw b hd=>?_,fun x w2 hkw b hd=>?_,fun x w2 hkw b hd=>?_,fun x w2 hkw b hd=>?_,fun x w2 hkw b hd=>?_,fun x w2 hkw b hd=>?_,fun x w2 hkw b hd=>?_,fun x w2 hkw b hd=>?_,fun x w2 hkw b hd=>?_,fun x w2 hkw b hd=>?_,fun x w2 hkw b hd=>?_,fun x w2 hkw b hd=>?_,fun x w2 hkw b hd=>?_,fun x w2 hkw b hd=>?_,fun x w2 hkw b hd=>?_,fun x w2 hkw b hd=>?_,trivial⟩
  ·go_wp2_with fail
   exact⟨rfl,zb.refl _ _⟩
  ·have KA:=HA.o.kept0 (Gb.o.then hkw)
   have y0:=KA.c0
   have d0:x 0=_:=hd 0 (by kernel_rfl)
   go_wp2_with fail
   exact⟨rfl,zb.refl _ _⟩
  ·have d1:x 1=_:=hd 1 (by kernel_rfl)
   have CX:=KZ k.bits w2
   go_wp2_with (go_at_call 114;refine CX.mono ?_;rintro e w3 ⟨rfl,hk3⟩;have Ga:=qI hk3;clear hk3)
   exact⟨rfl,Ga.o⟩
  ·have d2:x 2=_:=hd 2 (by kernel_rfl)
   have CX:=vC ⟨#[98,105,116,115]⟩ 3 k.bits ⟨#[]⟩ none 0 0 none 0 0 w2
   go_wp2_with (go_at_call 113;refine CX.mono ?_;rintro e w3 ⟨rfl,hk3⟩;have Ga:=qI hk3;clear hk3)
   exact⟨rfl,Ga.o⟩
  ·go_wp2_with fail
   exact⟨rfl,zb.refl _ _⟩
  ·have KA:=HA.o.kept0 (Gb.o.then hkw)
   have y1:=KA.c1
   have d4:x 4=_:=hd 4 (by kernel_rfl)
   go_wp2_with fail
   exact⟨rfl,zb.refl _ _⟩
  ·have d5:x 5=_:=hd 5 (by kernel_rfl)
   have CX:=KZ k.height w2
   go_wp2_with (go_at_call 114;refine CX.mono ?_;rintro e w3 ⟨rfl,hk3⟩;have Ga:=qI hk3;clear hk3)
   exact⟨rfl,Ga.o⟩
  ·have d6:x 6=_:=hd 6 (by kernel_rfl)
   have CX:=vC ⟨#[104,101,105,103,104,116]⟩ 3 k.height ⟨#[]⟩ none 0 0 none 0 0 w2
   go_wp2_with (go_at_call 113;refine CX.mono ?_;rintro e w3 ⟨rfl,hk3⟩;have Ga:=qI hk3;clear hk3)
   exact⟨rfl,Ga.o⟩
  ·go_wp2_with fail
   exact⟨rfl,zb.refl _ _⟩
  ·have d8:x 8=_:=hd 8 (by kernel_rfl)
   go_wp2_with fail
   exact⟨rfl,zb.refl _ _⟩
  ·have d9:x 9=_:=hd 9 (by kernel_rfl)
   have CX:=Jc.o w2 (Gb.o.then hkw)
   go_wp2_with (go_at_call 44;refine CX.mono ?_;rintro e w3 ⟨rfl,hk3⟩;have Ga:=qI hk3;clear hk3)
   exact⟨rfl,Ga.o⟩
  ·have d10:x 10=_:=hd 10 (by kernel_rfl)
   have CX:=bJ hs w2
   go_wp2_with (go_at_call 115;refine CX.mono ?_;rintro e w3 ⟨rfl,hk3⟩;have Ga:=qI hk3;clear hk3)
   exact⟨rfl,Ga.o⟩
  ·have d11:x 11=_:=hd 11 (by kernel_rfl)
   have CX:=vC ⟨#[112,117,98,108,105,99]⟩ 4 0 hs none 0 0 none 0 0 w2
   go_wp2_with (go_at_call 113;refine CX.mono ?_;rintro e w3 ⟨rfl,hk3⟩;have Ga:=qI hk3;clear hk3)
   exact⟨rfl,Ga.o⟩
  ·have d3:x 3=_:=hd 3 (by kernel_rfl)
   have d7:x 7=_:=hd 7 (by kernel_rfl)
   have d12:x 12=_:=hd 12 (by kernel_rfl)
   go_wp2_with fail
   exact⟨⟨_,rfl,Nat.le_refl _,by simp,zV w2 [.string ⟨#[98,105,116,115]⟩,.int .i64 3,.int .i64 k.bits,.string ⟨#[]⟩,.slice none 0 0,.slice none 0 0,.string ⟨#[104,101,105,103,104,116]⟩,.int .i64 3,.int .i64 k.height,.string ⟨#[]⟩,.slice none 0 0,.slice none 0 0,.string ⟨#[112,117,98,108,105,99]⟩,.int .i64 4,.int .i64 0,.string hs,.slice none 0 0,.slice none 0 0] 6 3 _ _ rfl rfl (by decide)⟩,(zb.refl _ _).alloc _⟩
  ·obtain⟨gx,d13,-,-,hs13⟩:=hd 13 (by kernel_rfl)
   have CX:=Jh.o gx w2 hkw hs13
   clear hs13
   go_wp2_with (go_at_call 112;refine CX.mono ?_;rintro e w3 ⟨hn3,hk3⟩;obtain⟨k3,m3,s3,p3,i3,c3,q3,j3,e3,rfl,ho3⟩:=Q7 hn3;have Gs:=qI ho3;have Ga:=qI hk3;have Gt:=qI (hkw.size);clear hk3 ho3 hn3)
   exact⟨⟨_,_,_,_,_,_,_,_,_,rfl,Gs.o⟩,Ga.o⟩
  ·have Gt:=qI (hkw.size)
   go_wp2_with fail
   exact⟨⟨_,Nat.le_refl _,by simp,rfl,zd rfl⟩,(zb.refl _ _).alloc _⟩
 ·intro x w2 hkw b hd hwin
  obtain⟨g,hg1,hg2,d15,hb15⟩:=hd 15 (by decide)
  obtain⟨k3,m3,s3,p3,i3,c3,q3,j3,e3,d14,ho14⟩:=hd 14 (by decide)
  have d13:=(hd 13 (by decide))
  have hap:=hwin.2 14 15 (by decide) (by decide) (by decide)
  have hw15:=hwin.1 15 (by decide)
  have hw14:=hwin.1 14 (by decide)
  have HO:=qI ho14
  have HB:=qI hb15
  have HG:Hid (w.heap.size + 2≤g):=qI (by have:=Jb.o;have:=Gb.o.size;omega)
  have Ji:Hid (∀ g',(b 14).1≤g'∧g' < (b 14).2→g'≠g∧w1.heap.size≤g'∧g' < w2.heap.size):=qI (fun g' h=>⟨by omega,by omega,by omega⟩)
  have Gu:=qI hkw
  have r0:=za (o:=0) (v:=.int .i64 0) hb15 rfl
  have r1:=za (o:=1) (v:=.int .i64 0) hb15 rfl
  have r2:=za (o:=2) (v:=.string ⟨#[]⟩) hb15 rfl
  have r3:=za (o:=3) (v:=.slice none 0 0) hb15 rfl
  have r4:=za (o:=4) (v:=.slice none 0 0) hb15 rfl
  have z:∀ j,w2.frozen? ⟨g,j,none⟩=false:=fun j=>zh hb15
  clear hd hwin hap hw15 hw14 hkw ho14 hb15 d13 hg1 hg2
  change wpList _ _ _ [_] _ _
  go_upto_region 4 with fail
  change Code.wp _ _ _ _ (vG w2 g k3 m3 s3 (.slice p3 i3 c3) (.slice q3 j3 e3))
  have Gg:Hid (zb [g] w2 (vG w2 g k3 m3 s3 (.slice p3 i3 c3) (.slice q3 j3 e3))):=qI (kN _ _ _ _ _ _ _)
  have Gv:=qI (jU HB.o k3 m3 s3 (.slice p3 i3 c3) (.slice q3 j3 e3))
  have Ge:Hid (zb [] w (vG w2 g k3 m3 s3 (.slice p3 i3 c3) (.slice q3 j3 e3))):=qI (((Gp.o.then Gb.o).then Gu.o).trans Gg.o (by intro i hi;simp at hi;subst hi;exact .inr (by have:=HG.o;omega)))
  have Gw:=qI (Gg.o.heap (Gu.o.heap (Gb.o.heap Ja.o (by simp)) (by simp)) (by have:=HG.o;simp;omega))
  have Gx:=qI (HO.o.kept Gg.o (fun i hi hS=>by simp at hi;subst hi;exact (Ji.o _ hS).1 rfl))
  rw [d15]
  clear r0 r1 r2 r3 r4 z d14 d15
  revert Gg Gv Ge Gw Gx
  generalize vG w2 g k3 m3 s3 (.slice p3 i3 c3) (.slice q3 j3 e3)=w4
  intro Gg Gv Ge Gw Gx
  have Jj:Hid (∀ (g:Nat) (w2:World),zb [] w4 w2→Slc w2 6 (.slice (some ⟨g,0,none⟩) 3 3) 3 [.string ⟨#[107,101,121,116,121,112,101]⟩,.int .i64 4,.int .i64 0,.string ⟨#[108,97,109,112,111,114,116,45,109,101,114,107,108,101]⟩,.slice none 0 0,.slice none 0 0,.string ⟨#[115,99,104,101,109,101]⟩,.int .i64 4,.int .i64 0,.string ⟨#[115,104,97,50,53,54]⟩,.slice none 0 0,.slice none 0 0,.string ⟨#[107,101,121,118,97,108]⟩,.int .i64 k3,.int .i64 m3,.string s3,.slice p3 i3 c3,.slice q3 j3 e3]→Calls Tryz.prog 112 #[.slice (some ⟨g,0,none⟩) 3 3] w2 fun e w'=>New 3 w2 w' e (qG k)∧zb [] w2 w'):=qI (fun g w2 hk hs2=>by
   refine Kb (n:=2) (S:=fun _=>True) (m:=(qG k).m) (mcs:=[(⟨#[107,101,121,116,121,112,101]⟩,[.int .i64 4,.int .i64 0,.string ⟨#[108,97,109,112,111,114,116,45,109,101,114,107,108,101]⟩,.slice none 0 0,.slice none 0 0]),(⟨#[115,99,104,101,109,101]⟩,[.int .i64 4,.int .i64 0,.string ⟨#[115,104,97,50,53,54]⟩,.slice none 0 0,.slice none 0 0]),(⟨#[107,101,121,118,97,108]⟩,[.int .i64 k3,.int .i64 m3,.string s3,.slice p3 i3 c3,.slice q3 j3 e3])]) hs2 ?_ (zau k Gc.o)
   exact zI.cons ⟨rfl,vf (n:=1) _ _ _⟩ (zI.cons ⟨rfl,vf (n:=1) _ _ _⟩ (zI.cons ⟨rfl,(Gx.o.rep.kept0 hk).mono (fun _ _ _=>trivial)⟩ (zI.nil _))))
  refine zZ (n:=31) 8 [zg.is (.agg #[.int .i64 4,.int .i64 0,.string ⟨#[108,97,109,112,111,114,116,45,109,101,114,107,108,101]⟩,.slice none 0 0,.slice none 0 0]),
   zg.is (.agg #[.string ⟨#[107,101,121,116,121,112,101]⟩,.int .i64 4,.int .i64 0,.string ⟨#[108,97,109,112,111,114,116,45,109,101,114,107,108,101]⟩,.slice none 0 0,.slice none 0 0]),
   zg.is (.agg #[.int .i64 4,.int .i64 0,.string ⟨#[115,104,97,50,53,54]⟩,.slice none 0 0,.slice none 0 0]),
   zg.is (.agg #[.string ⟨#[115,99,104,101,109,101]⟩,.int .i64 4,.int .i64 0,.string ⟨#[115,104,97,50,53,54]⟩,.slice none 0 0,.slice none 0 0]),
   zg.is (.agg #[.int .i64 k3,.int .i64 m3,.string s3,.slice p3 i3 c3,.slice q3 j3 e3]),
   zg.is (.agg #[.string ⟨#[107,101,121,118,97,108]⟩,.int .i64 k3,.int .i64 m3,.string s3,.slice p3 i3 c3,.slice q3 j3 e3]),
   yU [.string ⟨#[107,101,121,116,121,112,101]⟩,.int .i64 4,.int .i64 0,.string ⟨#[108,97,109,112,111,114,116,45,109,101,114,107,108,101]⟩,.slice none 0 0,.slice none 0 0,.string ⟨#[115,99,104,101,109,101]⟩,.int .i64 4,.int .i64 0,.string ⟨#[115,104,97,50,53,54]⟩,.slice none 0 0,.slice none 0 0,.string ⟨#[107,101,121,118,97,108]⟩,.int .i64 k3,.int .i64 m3,.string s3,.slice p3 i3 c3,.slice q3 j3 e3] 3 6,
   newFact 3 (qG k)] (by kernel_rfl) rfl (by kernel_rfl) (fun x=>by simp only [List.map,yM,Act.put,List.setIfInBounds_toArray,List.set_cons_zero,List.set_cons_succ];rfl) ?_ ?_
  ·refine⟨fun x w2 hkw b hd=>?_,fun x w2 hkw b hd=>?_,fun x w2 hkw b hd=>?_,fun x w2 hkw b hd=>?_,fun x w2 hkw b hd=>?_,fun x w2 hkw b hd=>?_,fun x w2 hkw b hd=>?_,fun x w2 hkw b hd=>?_,trivial⟩
   ·have CX:=bJ ⟨#[108,97,109,112,111,114,116,45,109,101,114,107,108,101]⟩ w2
    go_wp2_with (go_at_call 115;refine CX.mono ?_;rintro e w3 ⟨rfl,hk3⟩;have Ga:=qI hk3;clear hk3)
    exact⟨rfl,Ga.o⟩
   ·have d0:x 0=_:=hd 0 (by kernel_rfl)
    have CX:=vC ⟨#[107,101,121,116,121,112,101]⟩ 4 0 ⟨#[108,97,109,112,111,114,116,45,109,101,114,107,108,101]⟩ none 0 0 none 0 0 w2
    go_wp2_with (go_at_call 113;refine CX.mono ?_;rintro e w3 ⟨rfl,hk3⟩;have Ga:=qI hk3;clear hk3)
    exact⟨rfl,Ga.o⟩
   ·have CX:=bJ ⟨#[115,104,97,50,53,54]⟩ w2
    go_wp2_with (go_at_call 115;refine CX.mono ?_;rintro e w3 ⟨rfl,hk3⟩;have Ga:=qI hk3;clear hk3)
    exact⟨rfl,Ga.o⟩
   ·have d2:x 2=_:=hd 2 (by kernel_rfl)
    have CX:=vC ⟨#[115,99,104,101,109,101]⟩ 4 0 ⟨#[115,104,97,50,53,54]⟩ none 0 0 none 0 0 w2
    go_wp2_with (go_at_call 113;refine CX.mono ?_;rintro e w3 ⟨rfl,hk3⟩;have Ga:=qI hk3;clear hk3)
    exact⟨rfl,Ga.o⟩
   ·obtain⟨y0,y1,y2,y3,y4⟩:=k7 (hkw.heap Gv.o (by simp))
    go_wp2_with fail
    exact⟨rfl,zb.refl _ _⟩
   ·have d4:x 4=_:=hd 4 (by kernel_rfl)
    have CX:=vC ⟨#[107,101,121,118,97,108]⟩ k3 m3 s3 p3 i3 c3 q3 j3 e3 w2
    go_wp2_with (go_at_call 113;refine CX.mono ?_;rintro e w3 ⟨rfl,hk3⟩;have Ga:=qI hk3;clear hk3)
    exact⟨rfl,Ga.o⟩
   ·have d1:x 1=_:=hd 1 (by kernel_rfl)
    have d3:x 3=_:=hd 3 (by kernel_rfl)
    have d5:x 5=_:=hd 5 (by kernel_rfl)
    go_wp2_with fail
    exact⟨⟨_,rfl,Nat.le_refl _,by simp,zV w2 [.string ⟨#[107,101,121,116,121,112,101]⟩,.int .i64 4,.int .i64 0,.string ⟨#[108,97,109,112,111,114,116,45,109,101,114,107,108,101]⟩,.slice none 0 0,.slice none 0 0,.string ⟨#[115,99,104,101,109,101]⟩,.int .i64 4,.int .i64 0,.string ⟨#[115,104,97,50,53,54]⟩,.slice none 0 0,.slice none 0 0,.string ⟨#[107,101,121,118,97,108]⟩,.int .i64 k3,.int .i64 m3,.string s3,.slice p3 i3 c3,.slice q3 j3 e3] 6 3 _ _ rfl rfl (by decide)⟩,(zb.refl _ _).alloc _⟩
   ·obtain⟨gx,d6,-,-,hs6⟩:=hd 6 (by kernel_rfl)
    have CX:=Jj.o gx w2 hkw hs6
    clear hs6
    go_wp2_with (go_at_call 112;refine CX.mono ?_;rintro e w3 ⟨hn3,hk3⟩;obtain⟨k6,m6,s6,p6,i6,c6,q6,j6,e6,rfl,ho3⟩:=Q7 hn3;have Gs:=qI ho3;have Ga:=qI hk3;clear hk3 ho3 hn3)
    exact⟨⟨_,_,_,_,_,_,_,_,_,rfl,Gs.o⟩,Ga.o⟩
  ·intro x w5 hkw b hd hwin
   obtain⟨k6,m6,s6,p6,i6,c6,q6,j6,e6,d7,ho7⟩:=hd 7 (by decide)
   have hw7:=hwin.1 7 (by decide)
   have Jk:=qI ho7
   have Gy:=qI hkw
   have Jl:=qI hw7
   have Gj:=qI (hkw.heap Gw.o (by simp))
   have r0:=za (o:=0) (v:=.int .i64 0) Gj.o rfl
   have r1:=za (o:=1) (v:=.int .i64 0) Gj.o rfl
   have r2:=za (o:=2) (v:=.string ⟨#[]⟩) Gj.o rfl
   have r3:=za (o:=3) (v:=.slice none 0 0) Gj.o rfl
   have r4:=za (o:=4) (v:=.slice none 0 0) Gj.o rfl
   have z:∀ j,w5.frozen? ⟨w.heap.size + 1,j,none⟩=false:=fun j=>zh Gj.o
   clear hd hwin hw7 hkw ho7
   change wpList _ _ _ [_] _ _
   go_wp2_with fail
   change bodyPost _ _ _ _ _ (vG w5 (w.heap.size + 1) k6 m6 s6 (.slice p6 i6 c6) (.slice q6 j6 e6))
   have Gd:=kN w5 (w.heap.size + 1) k6 m6 s6 (.slice p6 i6 c6) (.slice q6 j6 e6)
   have Gi:=jU Gj.o k6 m6 s6 (.slice p6 i6 c6) (.slice q6 j6 e6)
   revert Gd Gi
   generalize vG w5 (w.heap.size + 1) k6 m6 s6 (.slice p6 i6 c6) (.slice q6 j6 e6)=WF
   intro Gd Gi
   obtain⟨z0,z1,z2,z3,z4⟩:=k7 Gi
   refine bodyPost_ret (v:=.agg #[.int .i64 k6,.int .i64 m6,.string s6,.slice p6 i6 c6,.slice q6 j6 e6]) (by simp [results,results81,go_sem,z0,z1,z2,z3,z4]) rfl ⟨?_,(Ge.o.then Gy.o).trans Gd (by intro i hi;simp at hi;subst hi;exact .inr (by simp))⟩
   rw [Gr.o]
   have hs4:=Ge.o.size
   have hw:=Jl.o
   have hs0:=Jb.o
   have hsz4:w.heap.size + 2≤w4.heap.size:=by have:=Gb.o.size;have:=Gu.o.size;have:=Gg.o.size;omega
   exact⟨_,rfl,(Jk.o.kept Gd (by intro k hk;simp at hk;subst hk;omega)).mono (fun g ⟨h5,h6⟩=>⟨by omega,Nat.lt_of_lt_of_le (Nat.lt_of_lt_of_le h6 hw.2.2) Gd.size⟩)⟩
open Go.Lib (decodeL toLowerU toLowerD mapGoD encodeRune encodeRuneZ caseA caseT lookupIdx CaseRow)
def xK (c:UInt8):Bool:=decide (48≤c.toNat∧c.toNat≤57) || decide (97≤c.toNat∧c.toNat≤102)
open Go.Lib
theorem dw_nil {α:Type}(p:α→Bool):∀ (l:List α),l.dropWhile p=[]↔∀ x,x ∈ l→p x=true
 | []=>by simp
 | a :: l=>by
  rw [List.dropWhile_cons]
  by_cases h:p a=true
  ·rw [if_pos h,dw_nil p l]
   simp [h]
  ·rw [if_neg h]
   simp [h]
theorem J8 (l cs:List UInt8):trimS l cs=[]↔l.all (cs.contains ·)=true:=by
 unfold trimS trimLeftS trimRightS
 rw [dw_nil,List.all_eq_true]
 constructor
 ·intro h
  have hz:(l.reverse.dropWhile (cs.contains ·))=[]:=by
   rcases Decidable.em ((l.reverse.dropWhile (cs.contains ·))=[]) with h1 | h1
   ·exact h1
   ·have h2:=List.head_dropWhile_not (cs.contains ·) h1
    rw [h _ (by simpa using List.head_mem h1)] at h2
    cases h2
  rw [dw_nil] at hz
  exact fun x hx=>hz x (by simpa using hx)
 ·intro h x hx
  have hx':x ∈ l.reverse.dropWhile (cs.contains ·):=by simpa using hx
  have:=(List.dropWhile_sublist (cs.contains ·)).subset hx'
  exact h x (by simpa using this)
def qC:List UInt8:=[48,49,50,51,52,53,54,55,56,57,97,98,99,100,101,102]
theorem u8_ofNat (c:UInt8):UInt8.ofNat c.toNat=c:=by simp
theorem Ky (c:UInt8):qC.contains c=xK c:=by
 have h:∀ n:Fin 256,qC.contains (UInt8.ofNat n.val)=xK (UInt8.ofNat n.val):=by decide +kernel
 have:=h ⟨c.toNat,c.toNat_lt⟩
 simpa [u8_ofNat] using this
def hv (c:UInt8):Nat:=(hexV c).getD 0
theorem YG (c:UInt8) (hc:xK c=true):indexByte qC c=hv c∧hv c < 16∧hexV c=some (hv c):=by
 have h:∀ n:Fin 256,xK (UInt8.ofNat n.val)=true→indexByte qC (UInt8.ofNat n.val)=hv (UInt8.ofNat n.val)∧hv (UInt8.ofNat n.val) < 16∧hexV (UInt8.ofNat n.val)=some (hv (UInt8.ofNat n.val)):=by decide +kernel
 have:=h ⟨c.toNat,c.toNat_lt⟩
 simp only [u8_ofNat] at this
 exact this hc
def yO:List UInt8→List UInt8
 | a :: b :: r=>UInt8.ofNat (hv a * 16 + hv b) :: yO r
 | _=>[]
theorem br:∀ (l:List UInt8),(yO l).length=l.length / 2
 | []=>rfl
 | [_]=>by simp [yO]
 | a :: b :: r=>by
  have:=br r
  simp only [yO,List.length_cons]
  omega
theorem b6:∀ (l:List UInt8) (k:Nat) (h:2 * k + 1 < l.length),∃ h2:k < (yO l).length,(yO l)[k]=UInt8.ofNat (hv l[2 * k] * 16 + hv l[2 * k + 1])
 | [],k,h=>by simp at h
 | [_],k,h=>by simp at h
 | a :: b :: r,0,h=>⟨by simp [yO],rfl⟩
 | a :: b :: r,k + 1,h=>by
  obtain⟨h2,h3⟩:=b6 r k (by simp only [List.length_cons] at h;omega)
  refine⟨by simp only [yO,List.length_cons];omega,?_⟩
  have e1:(a :: b :: r)[2 * (k + 1)]=r[2 * k]'(by simp only [List.length_cons] at h;omega):=by
   simp only [show 2 * (k + 1)=2 * k + 1 + 1 by omega,List.getElem_cons_succ]
  have e2:(a :: b :: r)[2 * (k + 1) + 1]=r[2 * k + 1]'(by simp only [List.length_cons] at h;omega):=by
   simp only [show 2 * (k + 1) + 1=2 * k + 1 + 1 + 1 by omega,List.getElem_cons_succ]
  rw [e1,e2,← h3]
  rfl
def yB (s:ByteArray):Option (List UInt8):=if s.size % 2=0∧s.data.toList.all xK=true then some (yO s.data.toList) else none
theorem Qi {w:World}{b:Nat}{s:ByteArray}(hb:w.heap[b]? = some (.cells #[.string s] 9 (0,0))) {i:Nat}(hi:i < s.size) :
  Calls Tryz.prog 128 #[.int .i64 i,.pointer (some ⟨b,0,none⟩)] w fun e w'=>e = .returned (.int .i64 (Lib.indexByte qC (s.data.toList[i]'(by simpa using hi))))∧w=w':=by
 have c0:=za (o:=0) (v:=.string s) hb rfl
 have hiI:(i:Int) < s.size:=by omega
 have HX:Hid (s.data.toList[i]'(by simpa using hi)=s[i]'hi):=qI rfl
 rw [HX.o]
 clear hb HX
 go_enter func128,ntmps128
 go_wp2_with (go_at_call 129;refine (libIndexByte _ _ _).mono ?_;rintro e w' ⟨rfl,rfl⟩)
 go_ret
 refine⟨?_,rfl⟩
 simp [qC]
theorem str_some {T:ByteArray}(h:T≠⟨#[]⟩):T.toList.isEmpty=false∧(!T.toList.isEmpty)=true:=by
 have h1:=(kF h).1
 have e:(⟨#[]⟩:ByteArray).toList=[]:=by decide +kernel
 rw [e] at h1
 have h2:T.toList.isEmpty=false:=by
  cases h3:T.toList with
  | nil=>rw [h3] at h1;cases h1
  | cons a l=>rfl
 rw [h2]
 exact⟨rfl,rfl⟩
theorem Z0:∀ (j:Nat) b,(⟨#[48,49,50,51,52,53,54,55,56,57,97,98,99,100,101,102]⟩:ByteArray).data.toList[j]? = some b→b.toNat < 128:=by
 intro j b h
 have hm:b ∈ ([48,49,50,51,52,53,54,55,56,57,97,98,99,100,101,102]:List UInt8):=List.mem_of_getElem? h
 have ha:([48,49,50,51,52,53,54,55,56,57,97,98,99,100,101,102]:List UInt8).all (fun b=>decide (b.toNat < 128))=true:=by decide
 simpa using List.all_eq_true.1 ha b hm
theorem hex_join (x y:Nat) (hx:x < 16) (hy:y < 16):Value.int .u8 (bits .or .i64 ((x:Int) * 16) (y:Int) % 256)=bv (UInt8.ofNat (x * 16 + y)):=by
 rw [bits_join .i64 32 (by decide) (fun n h0 h1=>by rw [IntKind.wrap_i64];omega) 4 _ _ (by omega) (by omega) (by omega) (by omega) (by omega) (by omega)]
 unfold bv
 congr 1
theorem unhex_no (s:ByteArray) (hs:s.size≤140737488355328) (h:s.size % 2=1∨s.data.toList.all xK=false) (w:World) :
  Calls Tryz.prog 96 #[.string s] w fun e w'=>e = .returned (.tuple #[.slice none 0 0,.int .i64 10])∧zb [] w w':=by
 obtain⟨W1,Gf⟩:∃ W1,Hid (W1=w.alloc (.cells #[.string s] 9)):=⟨_,qI rfl⟩
 have Gb:Hid (zb [] w W1):=qI (by rw [Gf.o];exact (zb.refl [] w).alloc _)
 have Gm:Hid (W1.heap[w.heap.size]? = some (.cells #[.string s] 9 (0,0))):=qI (by rw [Gf.o];exact zd rfl)
 have c0:=za (o:=0) (v:=.string s) Gm.o rfl
 have HH:=qI h
 have hsI:(s.size:Int)≤140737488355328:=by omega
 clear h
 by_cases ho:s.size % 2=1
 ·have ft:((s.size:Int).tmod 2)=1:=by rw [Int.tmod_eq_emod_of_nonneg (by omega)];omega
  clear ho
  go_enter func96,ntmps96
  go_wp2_with fail
  rw [← Gf.o]
  go_ret2
  exact⟨rfl,Gb.o⟩
 ·have ft:((s.size:Int).tmod 2)=0:=by rw [Int.tmod_eq_emod_of_nonneg (by omega)];omega
  have hne:yc (Lib.trimS s.data.toList qC)≠⟨#[]⟩:=fun e=>by
   have h1:Lib.trimS s.data.toList qC=[]:=by rw [← xR (Lib.trimS _ _),e]
   rw [J8] at h1
   have h2:s.data.toList.all (qC.contains ·)=s.data.toList.all xK:=by congr 1;funext c;exact Ky c
   rw [h2] at h1
   rcases HH.o with h | h
   ·exact ho h
   ·rw [h] at h1;cases h1
  have CT:=qI (libTrim s ⟨#[48,49,50,51,52,53,54,55,56,57,97,98,99,100,101,102]⟩ W1 (by omega) (by decide) Z0)
  rw [show (⟨#[48,49,50,51,52,53,54,55,56,57,97,98,99,100,101,102]⟩:ByteArray).data.toList=qC from rfl] at CT
  obtain⟨g1,g2⟩:=str_some hne
  clear ho hne
  revert CT g1 g2
  generalize yc (Lib.trimS s.data.toList qC)=T
  intro CT g1 g2
  go_enter func96,ntmps96
  go_wp2_with fail
  rw [← Gf.o]
  refine CT.o.mono ?_
  rintro e w2 ⟨rfl,hk2⟩
  go_wp2_with fail
  go_ret2
  exact⟨rfl,Gb.o.then hk2⟩
theorem unhex_yes (s:ByteArray) (hs:s.size≤140737488355328) (he:s.size % 2=0) (ha:s.data.toList.all xK=true) (w:World) :
  Calls Tryz.prog 96 #[.string s] w fun e w'=>(∃ a c,e = .returned (.tuple #[.slice a (yO s.data.toList).length c,.int .i64 0])∧w'.ownsRow w.heap.size 5 1 (.slice a (yO s.data.toList).length c) (yO s.data.toList).length ((yO s.data.toList).map bv))∧zb [] w w':=by
 obtain⟨W1,Gf⟩:∃ W1,Hid (W1=w.alloc (.cells #[.string s] 9)):=⟨_,qI rfl⟩
 have Gb:Hid (zb [] w W1):=qI (by rw [Gf.o];exact (zb.refl [] w).alloc _)
 have Gq:Hid (W1.heap.size=w.heap.size + 1):=qI (by rw [Gf.o];simp)
 have Gm:Hid (W1.heap[w.heap.size]? = some (.cells #[.string s] 9 (0,0))):=qI (by rw [Gf.o];exact zd rfl)
 have c0:=za (o:=0) (v:=.string s) Gm.o rfl
 have HL:Hid (s.data.toList.length=s.size):=qI (by simp)
 have HA:Hid (∀ i (h:i < s.data.toList.length),xK s.data.toList[i]=true):=qI (fun i h=>List.all_eq_true.1 ha _ (List.getElem_mem h))
 have hsI:(s.size:Int)≤140737488355328:=by omega
 have ft:((s.size:Int).tmod 2)=0:=by rw [Int.tmod_eq_emod_of_nonneg (by omega)];omega
 have hnil:Lib.trimS s.data.toList qC=[]:=by
  rw [J8,← ha]
  congr 1
  funext c
  exact Ky c
 have CT:=qI (libTrim s ⟨#[48,49,50,51,52,53,54,55,56,57,97,98,99,100,101,102]⟩ W1 (by omega) (by decide) Z0)
 rw [show (⟨#[48,49,50,51,52,53,54,55,56,57,97,98,99,100,101,102]⟩:ByteArray).data.toList=qC from rfl,hnil,show yc []=⟨#[]⟩ from rfl] at CT
 have HP:=qI (br s.data.toList)
 have Jm:=qI (b6 s.data.toList)
 have HE:=qI he
 clear hnil ha he
 go_enter func96,ntmps96
 go_wp2_with fail
 rw [← Gf.o]
 refine CT.o.mono ?_
 rintro e w2 ⟨rfl,hk2⟩
 have Jn:=qI hk2
 clear hk2 c0
 go_wp2_with fail
 go_loopw [5,6] (fun out i wr=>∃ (k:Nat) (a:Option Addr) (c:Nat),i = .int .i64 (2 * k:Nat)∧2 * k≤s.size∧out = .slice a k c∧wr.ownsRow W1.heap.size 5 1 (.slice a k c) k (((yO s.data.toList).take k).map bv)∧zb [] W1 wr) (fun _ i _=>s.size - (intOf i).toNat)
 case atStart=>exact⟨0,none,0,rfl,Nat.zero_le _,rfl,World.ownsRow_nil _ _ _ _,Jn.o⟩
 case round=>
  obtain⟨k,a,c,rfl,hk,rfl,hrow,hkr⟩:=hrel
  have Gk:=qI hrow
  have Gn:=qI hkr
  clear hrow hkr
  have hb:=Gn.o.heap Gm.o (by simp)
  have HB:=qI hb
  have c0:=za (o:=0) (v:=.string s) hb rfl
  clear hb
  by_cases hlt:2 * k < s.size
  ·have h2:2 * k + 1 < s.size:=by have:=HE.o;omega
   have hl1:2 * k < s.data.toList.length:=by rw [HL.o];omega
   have hl2:2 * k + 1 < s.data.toList.length:=by rw [HL.o];omega
   obtain⟨i1,i2,i3⟩:=YG _ (HA.o _ hl1)
   obtain⟨j1,j2,j3⟩:=YG _ (HA.o _ hl2)
   obtain⟨p1,p2⟩:=Jm.o k hl2
   have CA:=qI (Qi HB.o hlt)
   have CB:=qI (Qi HB.o h2)
   rw [i1] at CA
   rw [j1] at CB
   have HN:Hid ((yO s.data.toList).take (k + 1)=(yO s.data.toList).take k ++ [UInt8.ofNat (hv s.data.toList[2 * k] * 16 + hv s.data.toList[2 * k + 1])]):=qI (by rw [List.take_succ_eq_append_getElem p1,p2])
   have hltI:(2:Int) * k < s.size:=by omega
   have Jo:Hid (2 * k + 1 < s.size):=qI h2
   clear i1 i3 j1 j3 p1 p2
   revert CA CB HN i2 j2
   generalize hv s.data.toList[2 * k]=x
   generalize hv s.data.toList[2 * k + 1]=y
   intro i2 j2 CA CB HN
   clear hl1 hl2
   have i2I:(x:Int) < 16:=by omega
   have j2I:(y:Int) < 16:=by omega
   have ek:((2 * k:Nat):Int)=2 * (k:Int):=by omega
   go_wp2_with fail
   rw [← ek]
   refine CA.o.mono ?_
   rintro e w3 ⟨rfl,rfl⟩
   have ek1:((2 * k + 1:Nat):Int)=2 * (k:Int) + 1:=by omega
   go_wp2_with fail
   rw [← ek1]
   refine CB.o.mono ?_
   rintro e w4 ⟨rfl,rfl⟩
   go_wp2_with (at_builtin;refine zj ZU (v:=.slice a k c) (n:=k) (zk Gk.o ((zb.refl [] wr).alloc _) (by simp)) (jl wr _ _ _ rfl) (by simp [Value.oneCell']) (by simp only [maxLen];omega) (by omega) (by have:=Gn.o.size;simp;omega) rfl _ _ rfl rfl rfl ?_;intro v2 w5 hown hk5 _ hb5;obtain⟨a5,c5,rfl,-,-⟩:=(Slc.of_row hown).form;have Gz:=qI hown;have Gg:=qI hk5;clear hown hk5 hb5)
   case roundEnd=>
    refine⟨⟨k + 1,_,_,congrArg (Value.int .i64) (by omega),by have:=Jo.o;omega,rfl,?_,(Gn.o.alloc _).trans Gg.o (fun i hi=>.inr (Gk.o.lt i (Option.mem_toList.1 hi)).1)⟩,by simp [intOf];omega⟩
    have h9:=Gz.o
    rw [hex_join x y (by omega) (by omega)] at h9
    rw [HN.o,List.map_append]
    exact h9
  ·have HT:Hid ((yO s.data.toList).take k=yO s.data.toList∧k=(yO s.data.toList).length):=qI (by
    have h1:=HP.o
    have h2:=HL.o
    have h3:=HE.o
    exact⟨List.take_of_length_le (by omega),by omega⟩)
   have hltI:(s.size:Int)≤2 * k:=by omega
   have ek:((2 * k:Nat):Int)=2 * (k:Int):=by omega
   go_wp2_with fail
   go_ret2
   have h9:=Gk.o
   rw [HT.o.1,HT.o.2] at h9
   refine⟨⟨a,c,congrArg (fun m:Nat=>Ending.returned (Value.tuple #[.slice a m c,.int .i64 0])) HT.o.2,qj h9 (fun g hg=>by have:=(h9.lt g hg).1;have:=Gq.o;omega)⟩,Gb.o.then Gn.o⟩
end Go.Proofs.YtibnfbglanpoiaaGreatDoor

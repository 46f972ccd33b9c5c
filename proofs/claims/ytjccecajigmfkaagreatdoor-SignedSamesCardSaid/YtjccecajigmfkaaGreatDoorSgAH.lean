/- Parts of one proof, merged: XHE. -/
import Derived.Test.YtjccecajigmfkaaGreatDoorSgAG
import Derived.Test.YtjccecajigmfkaaGreatDoorSgAE
set_option linter.all false
set_option maxHeartbeats 12800000
set_option maxRecDepth 100000
namespace Go.Proofs.YtjccecajigmfkaaGreatDoor
open Go.Proofs.Tryz
open Go.RowKit
open Go.Maps (Keyed)
attribute [local go_sem] Oper.semAt_some
variable {am la:Option Addr}{lc:Nat}{m:List UInt8}{mb:Nat}{sa:Option Addr}{sc sg:Nat}{w:World}
structure Sgn1 (w:World)(sg:Nat)(sa la:Option Addr)(sc lc mb:Nat):Prop where
 box:xZ w sg (.slice sa 1 sc) (.slice la 1 lc) (k80 qB) (.map (some mb))
 seed:zp w (.slice sa 1 sc) [115]
 leaves:Slc w 32 (.slice la 1 lc) 1 ((YX 0).map bv)
 used:kO prog w 3 mb 0 (fun _=>none)
theorem Sgn1.k0 {w a:World}{sg:Nat}{sa la:Option Addr}{sc lc mb:Nat}(h:Sgn1 w sg sa la sc lc mb)(k:zb [] w a):Sgn1 a sg sa la sc lc mb:=
 ⟨h.box.k0 k,Slc.k0 h.seed k,Slc.k0 h.leaves k,h.used.k0 k⟩
def xF (m:List UInt8):SigS:=⟨0,vz [115] 0 8 m,[]⟩
theorem signAt1_any (h:Sgn1 w sg sa la sc lc mb){cm:Nat}(W:zp w (.slice am m.length cm) m)(u:m.length≤1048576)(R:qK w) : Calls prog 94 #[.pointer (some ⟨sg,0,none⟩),.int .i64 0,.slice am m.length cm] w fun e w'=>(∃ a1 c1 a2 c2,e = .returned (.tuple #[.agg #[.int .i64 0,.slice a1 8 c1,.slice a2 8 c2,.slice none 0 0],.int .i64 0])∧Slc w' 32 (.slice a1 8 c1) 8 ((xF m).one.rev.flatten.map bv)∧Slc w' 32 (.slice a2 8 c2) 8 ((xF m).one.oth.flatten.map bv))∧zb [mb] w w':=by
 obtain⟨t,Gf⟩:=XE (w.alloc (.cells #[.int .i64 0,.slice none 0 0,.slice none 0 0,.slice none 0 0] 87));have Gb:Hid (zb [] w t):=qI (kA1 Gf.o);have Gn:Hid (zbr t w.heap.size 0 (.slice none 0 0) (.slice none 0 0) (.slice none 0 0)):=qI (by rw [Gf.o];exact ze rfl);obtain⟨gl,ol,rfl,-,-⟩:=jC h.leaves Wo;have y:=qI (h.k0 Gb.o);have Gt:=qI (R.k0 Gb.o);have Gp:=qI (Slc.k0 W Gb.o);have CM:=qI (zbE t sg am m.length cm u);have CW:Hid (zJ t 139 #[.slice (some ⟨gl,ol,none⟩) 1 lc,.int .i64 0] (.tuple #[.slice none 0 0,.int .i64 0])):=qI (Way1_any (qN _ _ _) y.o.leaves);have CS:Hid (∀ Y,zb [] t Y→Calls prog 140 #[.slice sa 1 sc,.int .i64 0,.int .i64 8,.slice am m.length cm] Y fun e w'=>(∃ a1 c1 a2 c2,e = .returned (.tuple #[.agg #[.slice a1 8 c1,.slice a2 8 c2],.int .i64 0])∧Slc w' 32 (.slice a1 8 c1) 8 ((xF m).one.rev.flatten.map bv)∧Slc w' 32 (.slice a2 8 c2) 8 ((xF m).one.oth.flatten.map bv))∧zb [] Y w'):=qI (fun Y s=>lamSign_any (seed:=[115]) (Slc.k0 y.o.seed s) Wo 0 Ws (Slc.k0 Gp.o s) u (Gt.o.k0 s));have hw:(Lit.int .i64 0).wf=true:=Wk;have Gu:Hid (∀ w2,zb [] t w2→(Instr.lookup 77 (.map (some mb)) (.int .i64 0) true).run prog w2 = .ok (.tuple #[.string ⟨#[]⟩,.bool false]) w2):=qI (fun w2 s=>by
  have h1:=((y.o.used.k0 s).at.lookup keyInt underlying77 (z:=.string ⟨#[]⟩) (zeroValue9 w2) (Maps.keyOf_int_mk underlying3 hw)).1;exact h1)
 have Gs:Hid (∀ w2,zb [] t w2→∃ w',(Instr.mapUpdate 77 (.map (some mb)) (.int .i64 0) (.string (zx m))).run prog w2 = .ok () w'∧zb [mb] w2 w'):=qI (fun w2 s=>by
  obtain⟨w',h1,h2,h3,-⟩:=(y.o.used.k0 s).update keyInt underlying77 Wo (Maps.keyOf_int_mk underlying3 hw) (.string (zx m));exact⟨w',h1,h3⟩)
 have Gq:Hid (∀ w2,zb [] t w2→(convert 32 9 (.slice am m.length cm)).run prog w2 = .ok (.string (zx m)) w2):=qI (fun w2 s=>zp.toStr (Slc.k0 Gp.o s));have O:(k80 qB).root.length=32:=qN _ _ _;have c0:=y.o.box.c0;have c1:=y.o.box.c1;have c2:t.cell? ⟨sg,2,none⟩=some (.int .i64 8):=y.o.box.c2;have X:=qI (y.o.box.cm O);have Gr:Hid (mb<w.heap.size):=qI h.used.lt;have Gv:=qI y.o.used;have Gw:=qI u;clear R W u hw O h;generalize ad:m.length=mn at CM CS Gq Gw ⊢;generalize zx m=ms at Gs Gq;clear ad Gp;go_enter func94,ntmps94;go_upto_region 1 with fail;refine xg Gf.o ?_;go_upto_region 7 with first
  | (go_at_call 92;refine CM.o.mono ?_;rintro e w' ⟨rfl,rfl⟩)
  | (go_at_call 139;refine CW.o.mono ?_;rintro e w2 ⟨rfl,p⟩;have Z:=qI p;have y0:=p.cell c0 Wz;have y2:=p.cell c2 Wz;have ym:=p.cell X.o Wz;clear p c0 c1 c2)
 have ab:=Gu.o _ Z.o;go_upto_region 10 with fail;clear ab;go_cut [10,13] from 51 to 65 (fun e q wx=>e = .int .i64 0∧∃ (gx:Nat) (a1 a2:Option Addr) (c1 c2:Nat),q = .pointer (some ⟨gx,0,none⟩)∧Hid (wx.heap[gx]? = some (.cells #[.slice a1 8 c1,.slice a2 8 c2] 85 (0,0)))∧Hid (Slc wx 32 (.slice a1 8 c1) 8 ((xF m).one.rev.flatten.map bv))∧Hid (Slc wx 32 (.slice a2 8 c2) 8 ((xF m).one.oth.flatten.map bv))∧Hid (zb [] w2 wx));case first=>
  have z0:=((zb.refl [] w2).alloc (.cells #[.slice none 0 0,.slice none 0 0] 85)).cell y0 Wz;have z2:=((zb.refl [] w2).alloc (.cells #[.slice none 0 0,.slice none 0 0] 85)).cell y2 Wz;go_region_law (go_simp;go_at_call 140;first | (refine (CS.o _ Z.o.drew).mono ?_;rintro e C ⟨⟨a1,c1,a2,c2,rfl,r,i⟩,a⟩;have J:=qI r;have L:=qI i;have B:=qI ((zb.refl [] w2).drew.then a);clear r i a) | (refine (CS.o _ (Z.o.alloc _).drew).mono ?_;rintro e C ⟨⟨a1,c1,a2,c2,rfl,r,i⟩,a⟩;have J:=qI r;have L:=qI i;have l:=a.heap (show ((w2.alloc (.cells #[.slice none 0 0,.slice none 0 0] 85)).drew).heap[w2.heap.size]? = some (.cells #[.slice none 0 0,.slice none 0 0] 85 (0,0)) from ze rfl) Wz;have b0:=za (o:=0) l rfl;have b1:=za (o:=1) l rfl;have bz:∀ j,C.frozen? ⟨w2.heap.size,j,none⟩=false:=fun j=>zh l;have P:=qI l;have B:=qI (((zb.refl [] w2).alloc _).drew.then a);clear r i l a));all_goals go_wp2_with fail
  all_goals go_meet
  all_goals first
   | exact⟨rfl,_,a1,a2,c1,c2,rfl,qI (ze rfl),qI (Slc.k0 J.o (Wd.alloc _)),qI (Slc.k0 L.o (Wd.alloc _)),qI (B.o.alloc _)⟩
   | exact⟨rfl,_,a1,a2,c1,c2,rfl,qI (put2_at P.o _ _),qI (Slc.kept J.o (Zr _ _ _ _) (fun g F f=>zax J.o P.o Wo (by rw [List.mem_singleton] at f;rw [← f];exact F))),qI (Slc.kept L.o (Zr _ _ _ _) (fun g F f=>zax L.o P.o Wo (by rw [List.mem_singleton] at f;rw [← f];exact F))),qI (B.o.trans (Zr _ _ _ _) (by intro b N;rw [List.mem_singleton] at N;subst N;exact .inr (XA)))⟩
 case rest=>
  obtain⟨rfl,gx,a1,a2,c1,c2,rfl,P,J,L,Gx⟩:=hcut;have K:=qI (Z.o.then Gx.o);have z3:=K.o.cell X.o Wz;go_upto_region 13 with fail
  refine yz (n:=81) 7 [fI (.pointer (some ⟨sg,0,none⟩)),
   fI (.pointer (some ⟨sg,0,none⟩)),
   fI (.pointer (some ⟨sg,36,none⟩)),
   fI (.map (some mb)),
   fI (.int .i64 0),
   fI (.slice am mn cm),
   fI (.string ms)] Wr rfl Wr (fun x=>qm) ?_ ?_
  ·refine⟨?_,?_,?_,?_,?_,?_,?_,trivial⟩ <;> intro x w2 d b hd;·exact zi
   ·have d0:x 0=_:=hd 0 Wr;exact zi
   ·have d1:x 1=_:=hd 1 Wr;exact zi
   ·have d2:x 2=_:=hd 2 Wr;have y0:=d.cell z3 Wz;exact zi
   ·exact zi
   ·exact zi
   ·have d5:x 5=_:=hd 5 Wr;have cv:=Gq.o w2 (K.o.then d);exact zi
  ·intro x w7 d b7 hd Q;have d3:x 3=_:=hd 3 Wo;have d4:x 4=_:=hd 4 Wo;have d6:x 6=_:=hd 6 Wo;have H:=qI d;clear hd Q d;change wpList _ _ _ [_] _ _;obtain⟨C,ae,a⟩:=Gs.o w7 (K.o.then H.o);have B:=qI a;clear a;have D:kind w7 mb=1:=(Gv.o.k0 (K.o.then H.o)).kind;have G:=H.o.heap P.o Wz;have E:=B.o.heap G (fun e=>by rw [List.mem_singleton] at e;exact xM D (zU G) Wo e.symm);have I:=qI (B.o.heap ((K.o.then H.o).heap Gn.o Wz) (by have:=Gr.o;simp;omega));have q0:=za (o:=0) E rfl;have q1:=za (o:=1) E rfl;have r0:=za (o:=0) I.o rfl;have r1:=za (o:=1) I.o rfl;have r2:=za (o:=2) I.o rfl;have r3:=za (o:=3) I.o rfl;have rz:∀ j,C.frozen? ⟨w.heap.size,j,none⟩=false:=fun j=>zh I.o
   have Gy:=qI D;clear G E D z3;go_wp2_with fail;change bodyPost _ _ _ _ _ (Qy C w.heap.size 0 (.slice a1 8 c1) (.slice a2 8 c2) (.slice none 0 0));have Gi:=vK C w.heap.size 0 (.slice a1 8 c1) (.slice a2 8 c2) (.slice none 0 0);have M:=Ql I.o 0 (.slice a1 8 c1) (.slice a2 8 c2) (.slice none 0 0);generalize Qy C w.heap.size 0 (.slice a1 8 c1) (.slice a2 8 c2) (.slice none 0 0)=WF at Gi M;have y0:=za (o:=0) M rfl;have y1:=za (o:=1) M rfl;have y2:=za (o:=2) M rfl;have y3:=za (o:=3) M rfl;have A:∀ {v:Value}{k:Nat}{xs:List Value},Slc w7 32 v k xs→0<k→Slc WF 32 v k xs:=fun {v k xs} hs s=>by
    have aa:xs≠[]:=fun e=>by have:=hs.1;rw [e] at this;simp at this;omega
    have h8:=Slc.kept hs B.o (fun g F f=>by
     rw [List.mem_singleton] at f;subst f;exact slc_nomap hs aa F Gy.o)
    exact Slc.kept h8 Gi (fun g F f=>by
     rw [List.mem_singleton] at f;subst f;exact zax h8 I.o (by simp;omega) F)
   refine bodyPost_ret (v:=.tuple #[.agg #[.int .i64 0,.slice a1 8 c1,.slice a2 8 c2,.slice none 0 0],.int .i64 0]) (by simp [results,results94,go_sem,y0,y1,y2,y3]) rfl ?_;refine⟨⟨a1,c1,a2,c2,rfl,A (Slc.k0 J.o H.o) Wo,A (Slc.k0 L.o H.o) Wo⟩,?_⟩;have U:zb [mb] w C:=((Gb.o.then (K.o.then H.o)).mono Wz).trans' B.o;exact U.trans Gi (by intro b N;rw [List.mem_singleton] at N;subst N;exact .inr (XA))
theorem sgrSign1_any (h:Sgn1 w sg sa la sc lc mb){cm:Nat}(t:zp w (.slice am m.length cm) m)(i:m.length≤1048576)(p:qK w) : Calls prog 48 #[.pointer (some ⟨sg,0,none⟩),.slice am m.length cm] w fun e w'=>(∃ a1 c1 a2 c2,e = .returned (.tuple #[.agg #[.int .i64 0,.slice a1 8 c1,.slice a2 8 c2,.slice none 0 0],.int .i64 0])∧Slc w' 32 (.slice a1 8 c1) 8 ((xF m).one.rev.flatten.map bv)∧Slc w' 32 (.slice a2 8 c2) 8 ((xF m).one.oth.flatten.map bv))∧zb [mb] w w':=by
 obtain⟨n,C⟩:=XE (w.alloc (.cells #[.int .i64 0,.slice none 0 0,.slice none 0 0,.slice none 0 0] 87));have y:Hid (zb [] w n):=qI (kA1 C.o);have O:Hid (zbr n w.heap.size 0 (.slice none 0 0) (.slice none 0 0) (.slice none 0 0)):=qI (by rw [C.o];exact ze rfl);have x:=qI (h.k0 y.o);have G:=qI (zbE n sg am m.length cm i);have N:Hid (Calls prog 93 #[.pointer (some ⟨sg,0,none⟩),.int .i64 0] n fun e w'=>e = .returned (.bool false)∧n=w'):=qI (used_any x.o.box (qN _ _ _) x.o.used 0 Ws (fun v hv=>by cases hv));have E:=qI (signAt1_any x.o (Slc.k0 t y.o) i (p.k0 y.o));have R:Hid (mb<w.heap.size):=qI h.used.lt;have c1:=x.o.box.c1;clear p t i h;generalize A:m.length=mn at G E ⊢;clear A;go_enter func48,ntmps48;go_upto_region 1 with fail;refine xg C.o ?_;go_wp2_with (go_at_call 92;refine G.o.mono ?_;rintro e w' ⟨rfl,rfl⟩);go_loopw [20] (fun z wr=>z = .int .i64 0∧n=wr) (fun _ _=>0);case atStart=>exact⟨rfl,rfl⟩
 case round=>
  obtain⟨rfl,rfl⟩:=hrel;go_wp2_with first
   | (go_at_call 93;refine N.o.mono ?_;rintro e w' ⟨rfl,rfl⟩)
   | (go_at_call 94;refine E.o.mono ?_;rintro e w2 ⟨⟨a1,l,a2,k,rfl,u,s⟩,f⟩;have K:=qI u;have H:=qI s;have J:=qI f;have d:=qI (f.heap O.o (by have:=R.o;simp;omega));have Z:=za (o:=0) d.o rfl;have Y:=za (o:=1) d.o rfl;have W:=za (o:=2) d.o rfl;have X:=za (o:=3) d.o rfl;have U:∀ j,w2.frozen? ⟨w.heap.size,j,none⟩=false:=fun j=>zh d.o;clear u s f)
  change bodyPost _ _ _ _ _ (Qy w2 w.heap.size 0 (.slice a1 8 l) (.slice a2 8 k) (.slice none 0 0));have B:=vK w2 w.heap.size 0 (.slice a1 8 l) (.slice a2 8 k) (.slice none 0 0);have r:=Ql d.o 0 (.slice a1 8 l) (.slice a2 8 k) (.slice none 0 0);generalize Qy w2 w.heap.size 0 (.slice a1 8 l) (.slice a2 8 k) (.slice none 0 0)=WF at B r;have L:=za (o:=0) r rfl;have I:=za (o:=1) r rfl;have Q:=za (o:=2) r rfl;have M:=za (o:=3) r rfl;have a:∀ {v:Value}{q:Nat}{xs:List Value},Slc w2 32 v q xs→0<q→Slc WF 32 v q xs:=fun {v q xs} hs hq=>Slc.kept hs B (fun g P F=>by
   rw [List.mem_singleton] at F;subst F;exact zax hs d.o (by simp;omega) P)
  refine bodyPost_ret (v:=.tuple #[.agg #[.int .i64 0,.slice a1 8 l,.slice a2 8 k,.slice none 0 0],.int .i64 0]) (by simp [results,results48,go_sem,L,I,Q,M]) rfl ?_;exact⟨⟨a1,l,a2,k,rfl,a K.o Wo,a H.o Wo⟩,((y.o.mono Wz).trans' J.o).trans B (by intro b D;rw [List.mem_singleton] at D;subst D;exact .inr (XA))⟩
end Go.Proofs.YtjccecajigmfkaaGreatDoor

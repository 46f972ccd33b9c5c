/- Parts of one proof, merged: XBS XBT XHE XHF XHG. -/
import Derived.Test.YtjccecajigmfkaaGreatDoorSdAE
import Derived.Test.YtjccecajigmfkaaGreatDoorSdAF
set_option linter.all false
set_option maxHeartbeats 12800000
set_option maxRecDepth 100000
namespace Go.Proofs.YtjccecajigmfkaaGreatDoor
open Go.Proofs.Tryz
open Go.RowKit
attribute [local go_sem] Oper.semAt_some
attribute [local go_sem] Oper.semAt_some
variable {am:Option Addr}{l:List yg}{la:Option Addr}{lc:Nat}{m:List UInt8}{mb:Nat}{most:Int}{n:Nat}{r:yg}{s:ByteArray}{sa:Option Addr}{sc sg:Nat}{w:World}{α:Type}
theorem tySigs:qq prog 26 38 2 32 (.agg #[.string ByteArray.empty,.string ByteArray.empty]):=⟨underlying26,Wr,rfl,Wo⟩
theorem rows_one (l:List yg):∀ u∈kI l,u.oneCell'=true:=by
 intro u a
 unfold kI at a
 obtain⟨x,-,b⟩:=List.mem_flatMap.1 a
 simp only [yg.enc,XY,Xi,uC] at b
 rcases b with rfl | rfl <;> rfl
@[go_sem] theorem eqlNilRows (w:World)(a:Option Addr)(n c:Nat):(binOp .eql 26 (.slice a n c) (.slice none 0 0)).run prog w = .ok (.bool a.isNone) w:=Lib.run_eql_slice_nil w _ _ a n c 0 0 underlying26
theorem cloneRows_any {v:Value}(h:ky w v l)(r:l.length≤1000000) : Calls prog 50 #[v] w fun e w'=>(∃ a c,e = .returned (.slice a l.length c)∧w'.ownsRow w.heap.size 38 2 (.slice a l.length c) l.length (kI l))∧zb [] w w':=by
 rcases h.2 with ⟨rfl,i⟩ | h2
 ·have:l=[]:=Xh i
  subst this
  go_enter func50,ntmps50
  go_wp2
  go_ret
  exact⟨⟨_,_,rfl,World.ownsRow_nil _ _ _ _⟩,Wd⟩
 ·obtain⟨k,cap,rfl⟩:∃ k cap,v = .slice (some k) l.length cap:=by
   rcases h2 with ⟨i,a,c,rfl,_⟩ | ⟨g,o,c,rfl,_⟩
   ·exact⟨a,c,by rw [i]⟩
   ·exact⟨_,_,rfl⟩
  have m:=(zb.refl [] w).alloc (.cells #[] 38)
  have d:=own_new (size:=2) (base:=w.heap.size) (t:=38) w rfl (XA)
  have f:=Slc.k0 h m
  go_enter func50,ntmps50
  go_wp2_with (at_builtin;refine zz tySigs d f (rows_one l) (by simp only [maxLen];omega) Ws Wz rfl _ _ rfl rfl rfl ?_;intro q w1 b j _ n)
  rw [Xd,X8] at b
  obtain⟨p,s,rfl,-,-⟩:=(Slc.of_row b).form
  go_ret
  exact⟨⟨_,_,rfl,b⟩,m.trans j (by simp [Value.ownBlock])⟩
def Za (w:World)(g:Nat)(a b c d e f:Value):World:=(((((w.setCell ⟨g,0,none⟩ a).setCell ⟨g,1,none⟩ b).setCell ⟨g,2,none⟩ c).setCell ⟨g,3,none⟩ d).setCell ⟨g,4,none⟩ e).setCell ⟨g,5,none⟩ f
theorem kW (w:World)(g:Nat)(a b c d e f:Value):zb [g] w (Za w g a b c d e f):=((((((zb.refl [g] w).setCell (.inl Wz) _).setCell (.inl Wz) _).setCell (.inl Wz) _).setCell (.inl Wz) _).setCell (.inl Wz) _).setCell (.inl Wz) _
theorem vT {g:Nat}{c0 c1 c2 c3 c4 c5:Value}{t:Nat}{z:Nat×Nat}(h:w.heap[g]? = some (.cells #[c0,c1,c2,c3,c4,c5] t z))(a b c d e f:Value):(Za w g a b c d e f).heap[g]? = some (.cells #[a,b,c,d,e,f] t z):=by
 unfold Za
 have j:=ze (i:=0) (v:=a) (d:=#[a,c1,c2,c3,c4,c5]) h rfl
 have h2:=ze (i:=1) (v:=b) (d:=#[a,b,c2,c3,c4,c5]) j rfl
 have h3:=ze (i:=2) (v:=c) (d:=#[a,b,c,c3,c4,c5]) h2 rfl
 have k:=ze (i:=3) (v:=d) (d:=#[a,b,c,d,c4,c5]) h3 rfl
 have l:=ze (i:=4) (v:=e) (d:=#[a,b,c,d,e,c5]) k rfl
 exact ze (i:=5) (v:=f) (d:=#[a,b,c,d,e,f]) l rfl
abbrev kO (w:World)(g:Nat)(k m:Int)(s:ByteArray)(a b c:Value):Prop:=w.heap[g]? = some (.cells #[.int .i64 k,.int .i64 m,.string s,a,b,c] 28 (0,0))
theorem zbJ (l:List yg)(r:yg):kI (l++[r])=kI l++r.enc:=by simp [kI]
theorem Slc.mapped {f:World}{size:Nat}{v:Value}{xs:List Value}(h:Slc w size v n xs)(j:0<size)(hm:kind w mb=1)(k:zb [mb] w f):Slc f size v n xs:=Slc.kept h k (fun g d i=>by
 rw [XS] at i
 subst i
 obtain⟨a,c,rfl,-,-⟩:=h.form
 refine slc_nomap h (fun e=>?_) d hm
 have b:=h.1
 rw [e] at b
 have h2:=(vu d).1
 have:0<n*size:=Nat.mul_pos h2 j
 simp at b
 omega)
open Go.Maps (Keyed)
attribute [local go_sem] Oper.semAt_some
structure Sgn1 (w:World)(sg:Nat)(sa la:Option Addr)(sc lc mb:Nat):Prop where
 box:qc w sg (.slice sa 1 sc) (.slice la 1 lc) (k80 qK) (.map (some mb))
 seed:zm w (.slice sa 1 sc) [115]
 leaves:Slc w 32 (.slice la 1 lc) 1 ((YX 0).map bv)
 used:jg prog w 3 mb 0 (fun _=>none)
theorem Sgn1.k0 {w a:World}{sg:Nat}{sa la:Option Addr}{sc lc mb:Nat}(h:Sgn1 w sg sa la sc lc mb)(k:zb [] w a):Sgn1 a sg sa la sc lc mb:=
 ⟨h.box.k0 k,Slc.k0 h.seed k,Slc.k0 h.leaves k,h.used.k0 k⟩
def xI (m:List UInt8):SigS:=⟨0,vM [115] 0 8 m,[]⟩
theorem signAt1_any (h:Sgn1 w sg sa la sc lc mb){cm:Nat}(Q:zm w (.slice am m.length cm) m)(t:m.length≤1048576)(X:kg w) : Calls prog 94 #[.pointer (some ⟨sg,0,none⟩),.int .i64 0,.slice am m.length cm] w fun e w'=>(∃ a1 c1 a2 c2,e = .returned (.tuple #[.agg #[.int .i64 0,.slice a1 8 c1,.slice a2 8 c2,.slice none 0 0],.int .i64 0])∧Slc w' 32 (.slice a1 8 c1) 8 ((xI m).one.rev.flatten.map bv)∧Slc w' 32 (.slice a2 8 c2) 8 ((xI m).one.oth.flatten.map bv))∧zb [mb] w w':=by
 obtain⟨u,Gf⟩:=XE (w.alloc (.cells #[.int .i64 0,.slice none 0 0,.slice none 0 0,.slice none 0 0] 87));have Ge:Hid (zb [] w u):=qI (kA1 Gf.o);have Jf:Hid (zb6 u w.heap.size 0 (.slice none 0 0) (.slice none 0 0) (.slice none 0 0)):=qI (by rw [Gf.o];exact zd rfl);obtain⟨gl,ol,rfl,-,-⟩:=jR h.leaves Wo;have y:=qI (h.k0 Ge.o);have Jw:=qI (X.k0 Ge.o);have Jg:=qI (Slc.k0 Q Ge.o);have CM:=qI (zbB u sg am m.length cm t);have CW:Hid (zG u 139 #[.slice (some ⟨gl,ol,none⟩) 1 lc,.int .i64 0] (.tuple #[.slice none 0 0,.int .i64 0])):=qI (Way1_any (ko _ _ _) y.o.leaves);have CS:Hid (∀ w3,zb [] u w3→Calls prog 140 #[.slice sa 1 sc,.int .i64 0,.int .i64 8,.slice am m.length cm] w3 fun e w'=>(∃ a1 c1 a2 c2,e = .returned (.tuple #[.agg #[.slice a1 8 c1,.slice a2 8 c2],.int .i64 0])∧Slc w' 32 (.slice a1 8 c1) 8 ((xI m).one.rev.flatten.map bv)∧Slc w' 32 (.slice a2 8 c2) 8 ((xI m).one.oth.flatten.map bv))∧zb [] w3 w'):=qI (fun w3 s=>lamSign_any (seed:=[115]) (Slc.k0 y.o.seed s) Wo 0 Ws (Slc.k0 Jg.o s) t (Jw.o.k0 s));have hw:(Lit.int .i64 0).wf=true:=Wk;have Jx:Hid (∀ w2,zb [] u w2→(Instr.lookup 77 (.map (some mb)) (.int .i64 0) true).run prog w2 = .ok (.tuple #[.string ⟨#[]⟩,.bool false]) w2):=qI (fun w2 s=>by
  have h1:=((y.o.used.k0 s).at.lookup keyInt underlying77 (z:=.string ⟨#[]⟩) (zeroValue9 w2) (Maps.keyOf_int_mk underlying3 hw)).1;exact h1)
 have Jq:Hid (∀ w2,zb [] u w2→∃ w',(Instr.mapUpdate 77 (.map (some mb)) (.int .i64 0) (.string (zw m))).run prog w2 = .ok () w'∧zb [mb] w2 w'):=qI (fun w2 s=>by
  obtain⟨w',h1,h2,h3,-⟩:=(y.o.used.k0 s).update keyInt underlying77 Wo (Maps.keyOf_int_mk underlying3 hw) (.string (zw m));exact⟨w',h1,h3⟩)
 have Jh:Hid (∀ w2,zb [] u w2→(convert 32 9 (.slice am m.length cm)).run prog w2 = .ok (.string (zw m)) w2):=qI (fun w2 s=>zm.toStr (Slc.k0 Jg.o s));have P:(k80 qK).root.length=32:=ko _ _ _;have c0:=y.o.box.c0;have c1:=y.o.box.c1;have c2:u.cell? ⟨sg,2,none⟩=some (.int .i64 8):=y.o.box.c2;have O:=qI (y.o.box.cm P);have Gs:Hid (mb<w.heap.size):=qI h.used.lt;have Jy:=qI y.o.used;have Jz:=qI t;clear X Q t hw P h;generalize ad:m.length=mn at CM CS Jh Jz ⊢;generalize zw m=ms at Jq Jh;clear ad Jg;go_enter func94,ntmps94;go_upto_region 1 with fail;refine yZ Gf.o ?_;go_upto_region 7 with first
  | (go_at_call 92;refine CM.o.mono ?_;rintro e w' ⟨rfl,rfl⟩)
  | (go_at_call 139;refine CW.o.mono ?_;rintro e w2 ⟨rfl,p⟩;have Gk:=qI p;have Y:=p.cell c0 Wz;have y2:=p.cell c2 Wz;have ym:=p.cell O.o Wz;clear p c0 c1 c2)
 have ab:=Jx.o _ Gk.o;go_upto_region 10 with fail;clear ab;go_cut [10,13] from 51 to 65 (fun e q Z=>e = .int .i64 0∧∃ (gx:Nat) (a1 a2:Option Addr) (c1 c2:Nat),q = .pointer (some ⟨gx,0,none⟩)∧Hid (Z.heap[gx]? = some (.cells #[.slice a1 8 c1,.slice a2 8 c2] 85 (0,0)))∧Hid (Slc Z 32 (.slice a1 8 c1) 8 ((xI m).one.rev.flatten.map bv))∧Hid (Slc Z 32 (.slice a2 8 c2) 8 ((xI m).one.oth.flatten.map bv))∧Hid (zb [] w2 Z));case first=>
  have z0:=((zb.refl [] w2).alloc (.cells #[.slice none 0 0,.slice none 0 0] 85)).cell Y Wz;have z2:=((zb.refl [] w2).alloc (.cells #[.slice none 0 0,.slice none 0 0] 85)).cell y2 Wz;go_region_law (go_simp;go_at_call 140;first | (refine (CS.o _ Gk.o.drew).mono ?_;rintro e A ⟨⟨a1,c1,a2,c2,rfl,r,i⟩,a⟩;have K:=qI r;have J:=qI i;have C:=qI ((zb.refl [] w2).drew.then a);clear r i a) | (refine (CS.o _ (Gk.o.alloc _).drew).mono ?_;rintro e A ⟨⟨a1,c1,a2,c2,rfl,r,i⟩,a⟩;have K:=qI r;have J:=qI i;have f:=a.heap (show ((w2.alloc (.cells #[.slice none 0 0,.slice none 0 0] 85)).drew).heap[w2.heap.size]? = some (.cells #[.slice none 0 0,.slice none 0 0] 85 (0,0)) from zd rfl) Wz;have b0:=za (o:=0) f rfl;have b1:=za (o:=1) f rfl;have bz:∀ j,A.frozen? ⟨w2.heap.size,j,none⟩=false:=fun j=>zh f;have N:=qI f;have C:=qI (((zb.refl [] w2).alloc _).drew.then a);clear r i f a));all_goals go_wp2_with fail
  all_goals go_meet
  all_goals first
   | exact⟨rfl,_,a1,a2,c1,c2,rfl,qI (zd rfl),qI (Slc.k0 K.o (Wd.alloc _)),qI (Slc.k0 J.o (Wd.alloc _)),qI (C.o.alloc _)⟩
   | exact⟨rfl,_,a1,a2,c1,c2,rfl,qI (put2_at N.o _ _),qI (Slc.kept K.o (ZL _ _ _ _) (fun g G l=>za2 K.o N.o Wo (by rw [XS] at l;rw [← l];exact G))),qI (Slc.kept J.o (ZL _ _ _ _) (fun g G l=>za2 J.o N.o Wo (by rw [XS] at l;rw [← l];exact G))),qI (C.o.trans (ZL _ _ _ _) (by intro b M;rw [XS] at M;subst M;exact .inr (XA)))⟩
 case rest=>
  obtain⟨rfl,gx,a1,a2,c1,c2,rfl,N,K,J,Ma⟩:=hcut;have L:=qI (Gk.o.then Ma.o);have z3:=L.o.cell O.o Wz;go_upto_region 13 with fail
  refine yG (n:=81) 7 [fI (.pointer (some ⟨sg,0,none⟩)),
   fI (.pointer (some ⟨sg,0,none⟩)),
   fI (.pointer (some ⟨sg,36,none⟩)),
   fI (.map (some mb)),
   fI (.int .i64 0),
   fI (.slice am mn cm),
   fI (.string ms)] Wr rfl Wr (fun x=>qB) ?_ ?_
  ·refine⟨?_,?_,?_,?_,?_,?_,?_,trivial⟩ <;> intro x w2 d b hd;·exact zi
   ·have d0:x 0=_:=hd 0 Wr;exact zi
   ·have d1:x 1=_:=hd 1 Wr;exact zi
   ·have d2:x 2=_:=hd 2 Wr;have Y:=d.cell z3 Wz;exact zi
   ·exact zi
   ·exact zi
   ·have d5:x 5=_:=hd 5 Wr;have cv:=Jh.o w2 (L.o.then d);exact zi
  ·intro x w7 d b7 hd R;have d3:x 3=_:=hd 3 Wo;have d4:x 4=_:=hd 4 Wo;have d6:x 6=_:=hd 6 Wo;have F:=qI d;clear hd R d;change wpList _ _ _ [_] _ _;obtain⟨A,ae,a⟩:=Jq.o w7 (L.o.then F.o);have C:=qI a;clear a;have H:kind w7 mb=1:=(Jy.o.k0 (L.o.then F.o)).kind;have I:=F.o.heap N.o Wz;have D:=C.o.heap I (fun e=>by rw [XS] at e;exact xP H (zQ I) Wo e.symm);have E:=qI (C.o.heap ((L.o.then F.o).heap Jf.o Wz) (by have:=Gs.o;simp;omega));have q0:=za (o:=0) D rfl;have q1:=za (o:=1) D rfl;have r0:=za (o:=0) E.o rfl;have r1:=za (o:=1) E.o rfl;have r2:=za (o:=2) E.o rfl;have r3:=za (o:=3) E.o rfl;have rz:∀ j,A.frozen? ⟨w.heap.size,j,none⟩=false:=fun j=>zh E.o
   have Gw:=qI H;clear I D H z3;go_wp2_with fail;change bodyPost _ _ _ _ _ (QY A w.heap.size 0 (.slice a1 8 c1) (.slice a2 8 c2) (.slice none 0 0));have Gg:=vX A w.heap.size 0 (.slice a1 8 c1) (.slice a2 8 c2) (.slice none 0 0);have W:=QN E.o 0 (.slice a1 8 c1) (.slice a2 8 c2) (.slice none 0 0);generalize QY A w.heap.size 0 (.slice a1 8 c1) (.slice a2 8 c2) (.slice none 0 0)=WF at Gg W;have Y:=za (o:=0) W rfl;have y1:=za (o:=1) W rfl;have y2:=za (o:=2) W rfl;have y3:=za (o:=3) W rfl;have B:∀ {v:Value}{k:Nat}{xs:List Value},Slc w7 32 v k xs→0<k→Slc WF 32 v k xs:=fun {v k xs} hs s=>by
    have aa:xs≠[]:=fun e=>by have:=hs.1;rw [e] at this;simp at this;omega
    have h8:=Slc.kept hs C.o (fun g G l=>by
     rw [XS] at l;subst l;exact slc_nomap hs aa G Gw.o)
    exact Slc.kept h8 Gg (fun g G l=>by
     rw [XS] at l;subst l;exact za2 h8 E.o (by simp;omega) G)
   refine bodyPost_ret (v:=.tuple #[.agg #[.int .i64 0,.slice a1 8 c1,.slice a2 8 c2,.slice none 0 0],.int .i64 0]) (by simp [results,results94,go_sem,Y,y1,y2,y3]) rfl ?_;refine⟨⟨a1,c1,a2,c2,rfl,B (Slc.k0 K.o F.o) Wo,B (Slc.k0 J.o F.o) Wo⟩,?_⟩;have U:zb [mb] w A:=((Ge.o.then (L.o.then F.o)).mono Wz).trans' C.o;exact U.trans Gg (by intro b M;rw [XS] at M;subst M;exact .inr (XA))
theorem sgrSign1_any (h:Sgn1 w sg sa la sc lc mb){cm:Nat}(p:zm w (.slice am m.length cm) m)(f:m.length≤1048576)(s:kg w) : Calls prog 48 #[.pointer (some ⟨sg,0,none⟩),.slice am m.length cm] w fun e w'=>(∃ a1 c1 a2 c2,e = .returned (.tuple #[.agg #[.int .i64 0,.slice a1 8 c1,.slice a2 8 c2,.slice none 0 0],.int .i64 0])∧Slc w' 32 (.slice a1 8 c1) 8 ((xI m).one.rev.flatten.map bv)∧Slc w' 32 (.slice a2 8 c2) 8 ((xI m).one.oth.flatten.map bv))∧zb [mb] w w':=by
 obtain⟨l,B⟩:=XE (w.alloc (.cells #[.int .i64 0,.slice none 0 0,.slice none 0 0,.slice none 0 0] 87));have y:Hid (zb [] w l):=qI (kA1 B.o);have I:Hid (zb6 l w.heap.size 0 (.slice none 0 0) (.slice none 0 0) (.slice none 0 0)):=qI (by rw [B.o];exact zd rfl);have x:=qI (h.k0 y.o);have F:=qI (zbB l sg am m.length cm f);have K:Hid (Calls prog 93 #[.pointer (some ⟨sg,0,none⟩),.int .i64 0] l fun e w'=>e = .returned (.bool false)∧l=w'):=qI (used_any x.o.box (ko _ _ _) x.o.used 0 Ws (fun v hv=>by cases hv));have D:=qI (signAt1_any x.o (Slc.k0 p y.o) f (s.k0 y.o));have J:Hid (mb<w.heap.size):=qI h.used.lt;have c1:=x.o.box.c1;clear s p f h;generalize C:m.length=mn at F D ⊢;clear C;go_enter func48,ntmps48;go_upto_region 1 with fail;refine yZ B.o ?_;go_wp2_with (go_at_call 92;refine F.o.mono ?_;rintro e w' ⟨rfl,rfl⟩);go_loopw [20] (fun z wr=>z = .int .i64 0∧l=wr) (fun _ _=>0);case atStart=>exact⟨rfl,rfl⟩
 case round=>
  obtain⟨rfl,rfl⟩:=hrel;go_wp2_with first
   | (go_at_call 93;refine K.o.mono ?_;rintro e w' ⟨rfl,rfl⟩)
   | (go_at_call 94;refine D.o.mono ?_;rintro e w2 ⟨⟨a1,k,a2,n,rfl,u,t⟩,i⟩;have M:=qI u;have L:=qI t;have R:=qI i;have d:=qI (i.heap I.o (by have:=J.o;simp;omega));have U:=za (o:=0) d.o rfl;have Y:=za (o:=1) d.o rfl;have X:=za (o:=2) d.o rfl;have Z:=za (o:=3) d.o rfl;have W:∀ j,w2.frozen? ⟨w.heap.size,j,none⟩=false:=fun j=>zh d.o;clear u t i)
  change bodyPost _ _ _ _ _ (QY w2 w.heap.size 0 (.slice a1 8 k) (.slice a2 8 n) (.slice none 0 0));have A:=vX w2 w.heap.size 0 (.slice a1 8 k) (.slice a2 8 n) (.slice none 0 0);have r:=QN d.o 0 (.slice a1 8 k) (.slice a2 8 n) (.slice none 0 0);generalize QY w2 w.heap.size 0 (.slice a1 8 k) (.slice a2 8 n) (.slice none 0 0)=WF at A r;have N:=za (o:=0) r rfl;have O:=za (o:=1) r rfl;have Q:=za (o:=2) r rfl;have H:=za (o:=3) r rfl;have a:∀ {v:Value}{q:Nat}{xs:List Value},Slc w2 32 v q xs→0<q→Slc WF 32 v q xs:=fun {v q xs} hs hq=>Slc.kept hs A (fun g P G=>by
   rw [XS] at G;subst G;exact za2 hs d.o (by simp;omega) P)
  refine bodyPost_ret (v:=.tuple #[.agg #[.int .i64 0,.slice a1 8 k,.slice a2 8 n,.slice none 0 0],.int .i64 0]) (by simp [results,results48,go_sem,N,O,Q,H]) rfl ?_;exact⟨⟨a1,k,a2,n,rfl,a M.o Wo,a L.o Wo⟩,((y.o.mono Wz).trans' R.o).trans A (by intro b E;rw [XS] at E;subst E;exact .inr (XA))⟩
attribute [local go_sem] Oper.semAt_some
theorem JW (m:List UInt8):(xI m).one.rev.length=8∧(xI m).one.oth.length=8∧(xI m).way.length=0∧yU (xI m).one.rev∧yU (xI m).one.oth∧yU (xI m).way:=
 ⟨by simp [xI,vM],by simp [xI,vM],rfl,(signL_32 _ _ _ _).1,(signL_32 _ _ _ _).2,yU.nil⟩
theorem bE (m:List UInt8):(xR (xI m)).length=516:=by
 obtain⟨a,h2,h3,d,b,h6⟩:=JW m;unfold xR;rw [XM,XM,xy,JQ d b Ws,a,h6.flat,h3]
def rowS (m:List UInt8):yg:=⟨qe (k80 qK),jP (xR (xI m))⟩
theorem sgnSign1_any {W0:World}(am:xS W0)(Q:kg W0){S:Nat→Prop}(aj:zb [] W0 w){cs:List Value}{v:V n}{a:Option Addr}{c:Nat}(h:Env n S w cs v a c l)(hm:yd n v l=true)(hl:l.length≤2)(hs:Sgn1 w sg sa la sc lc mb)(ao:W0.heap.size≤mb)(hS:¬ S mb) : Calls prog 15 #[.agg (zaQ cs a l.length c).toArray,.pointer (some ⟨sg,0,none⟩)] w fun e w'=>(∃ kd nm st p1 i1 d1 p2 i2 d2 a' c',e = .returned (.tuple #[.agg #[.int .i64 kd,.int .i64 nm,.string st,.slice p1 i1 d1,.slice p2 i2 d2,.slice a' (l.length+1) c'],.int .i64 0])∧Env n (fun g=>w.heap.size≤g) w' [.int .i64 kd,.int .i64 nm,.string st,.slice p1 i1 d1,.slice p2 i2 d2] v a' c' (l++[rowS (kY n v l)]))∧qc w' sg (.slice sa 1 sc) (.slice la 1 lc) (k80 qK) (.map (some mb))∧zb [mb] w w':=by
 obtain⟨kd,nm,st,p1,i1,d1,p2,i2,d2,rfl⟩:=h.rep.conv;obtain⟨t,Gf⟩:=XE ((w.alloc (.cells #[.int .i64 kd,.int .i64 nm,.string st,.slice p1 i1 d1,.slice p2 i2 d2,.slice a l.length c] 28)).alloc (.cells #[.int .i64 0,.int .i64 0,.string ⟨#[]⟩,.slice none 0 0,.slice none 0 0,.slice none 0 0] 28));have Ge:Hid (zb [] w t):=qI (kA2 Gf.o);have O:Hid (kO t w.heap.size kd nm st (.slice p1 i1 d1) (.slice p2 i2 d2) (.slice a l.length c)):=qI (by rw [Gf.o];exact ((zb.refl [] _).alloc _).heap (zd rfl) Wz);have Ji:Hid (kO t (w.heap.size+1) 0 0 ⟨#[]⟩ (.slice none 0 0) (.slice none 0 0) (.slice none 0 0)):=qI (by rw [Gf.o];exact zd Wz);have Jj:Hid (∀ w2,zb [mb] t w2→xS w2∧kg w2):=qI (fun w2 x=>by
  have f:zb [] W0 w2:=(aj.then Ge.o).trans x (by intro i hi;rw [XS] at hi;subst hi;exact .inr ao);exact⟨am.k0 f,Q.k0 f⟩)
 have U:=qI (h.k0 Ge.o);have Jk:=qI (hs.k0 Ge.o);have Mb:=qI hs.box;have Gx:Hid (qc t sg (.slice sa 1 sc) (.slice la 1 lc) (k80 qK) (.map (some mb))):=qI Jk.o.box;have Gs:=qI hs.used.lt;have Gw:Hid (kind t mb=1):=qI Jk.o.used.kind;have Jl:=qI (Jj.o t Wd);have CM:Hid (zG t 21 #[.agg #[.int .i64 kd,.int .i64 nm,.string st,.slice p1 i1 d1,.slice p2 i2 d2,.slice a l.length c]] (.bool true)):=qI (by have f:=qZ U.o Jl.o.1;rw [hm] at f;exact f);have CB:Hid (∀ w2,zb [] t w2→Calls prog 20 #[.agg #[.int .i64 kd,.int .i64 nm,.string st,.slice p1 i1 d1,.slice p2 i2 d2,.slice a l.length c]] w2 fun e w'=>(∃ q d,e = .returned (.slice q (kY n v l).length d)∧zm w' (.slice q (kY n v l).length d) (kY n v l))∧zb [] w2 w'):=qI (fun w2 x=>by have f:=zbx (U.o.k0 x) (Jl.o.1.k0 x);exact f);have Jr:Hid ((kY n v l).length≤1048576):=qI (bodyB_len n v l);generalize hB:kY n v l=B at CB Jr ⊢;have CS:Hid (∀ w2 q d,zb [] t w2→zm w2 (.slice q B.length d) B→Calls prog 48 #[.pointer (some ⟨sg,0,none⟩),.slice q B.length d] w2 _):=qI (fun w2 q d x hb=>sgrSign1_any (Jk.o.k0 x) hb Jr.o (Jl.o.2.k0 x));obtain⟨f1,f2,f3,f4,f5,f6⟩:=JW B;have CE:Hid (∀ w2 X c1 a2 c2,Slc w2 32 (.slice X 8 c1) 8 ((xI B).one.rev.flatten.map bv)→Slc w2 32 (.slice a2 8 c2) 8 ((xI B).one.oth.flatten.map bv)→Calls prog 49 #[.agg #[.int .i64 0,.slice X 8 c1,.slice a2 8 c2,.slice none 0 0]] w2 fun e w'=>(∃ a c,e = .returned (.tuple #[.slice a 516 c,.int .i64 0])∧zm w' (.slice a 516 c) (xR (xI B)))∧zb [] w2 w'):=qI (fun w2 X c1 a2 c2 f h2=>by
  have y:=sigEncode_any (s:=xI B) (XB) f1 f2 f3 Wo f4 f5 f6 f h2 (⟨rfl,.inl ⟨rfl,rfl⟩⟩:Slc w2 32 (.slice none 0 0) 0 []) Wo;rw [bE] at y;exact y)
 have CC:Hid (∀ w2,zb [mb] t w2→Calls prog 50 #[.slice a l.length c] w2 _):=qI (fun w2 x=>cloneRows_any (Slc.mapped U.o.rows Wo Gw.o x) Ws);have CP:Hid (∀ w2,zb [mb] t w2→Calls prog 18 #[.pointer (some ⟨sg,0,none⟩)] w2 fun e w'=>e = .returned (.agg (yV (k80 qK)))∧zb [] w2 w'):=qI (fun w2 f=>zbK (f.heap Gx.o (fun e=>by rw [XS] at e;exact xP Gw.o (zQ Gx.o) Wo e.symm)) (ko _ _ _));have CI:Hid (∀ w2,zb [mb] t w2→Calls prog 51 #[.agg (yV (k80 qK))] w2 fun e w'=>e = .returned (.string (qe (k80 qK)))∧zb [] w2 w'):=qI (fun w2 f=>keyId_any (k80 qK) (by constructor <;> decide) (ko _ _ _) w2 (Jj.o w2 f).1 (Jj.o w2 f).2);have CX:Hid (∀ w2 q d,zm w2 (.slice q 516 d) (xR (xI B))→Calls prog 52 #[.slice q 516 d] w2 fun e w'=>e = .returned (.string (jP (xR (xI B))))∧zb [] w2 w'):=qI (fun w2 q d f=>by
  have H:=bE B;have y:=za4 (w:=w2) (a:=q) (c:=d) (l:=xR (xI B)) (by rw [H];exact f) (by rw [H];decide) (by intro e;rw [e] at H;cases H);rw [H] at y;exact y)
 have CV:Hid (∀ w2,zb [mb] t w2→Calls prog 53 #[.agg #[.int .i64 kd,.int .i64 nm,.string st,.slice p1 i1 d1,.slice p2 i2 d2]] w2 fun e w'=>(∃ kd nm st p1 i1 d1 p2 i2 d2,e = .returned (.agg #[.int .i64 kd,.int .i64 nm,.string st,.slice p1 i1 d1,.slice p2 i2 d2])∧Rep n (fun g=>w.heap.size≤g∧g≠w.heap.size+1) w' [.int .i64 kd,.int .i64 nm,.string st,.slice p1 i1 d1,.slice p2 i2 d2] v)∧zb [] w2 w'):=qI (fun w2 x=>by
  have f:Rep n S w2 [.int .i64 kd,.int .i64 nm,.string st,.slice p1 i1 d1,.slice p2 i2 d2] v:=U.o.rep.kept x (by intro k x;rw [XS] at x;rw [x];exact hS);refine (clone_any n v f U.o.small).mono (fun e w' y=>?_);obtain⟨⟨aw,rfl,ho⟩,ar⟩:=y;have h2:=Rep.mono (T:=fun g=>w.heap.size≤g∧g≠w.heap.size+1) ho.rep (fun g _ hg=>by
   have h3:=x.size;have h4:=lt_of_block Ji.o;exact⟨Ws,Ws⟩)
  obtain⟨k,m,s,p,i,c,q,j,d,rfl⟩:=h2.conv;exact⟨⟨k,m,s,p,i,c,q,j,d,rfl,h2⟩,ar⟩)
 have Gu:Hid (rowS B=⟨qe (k80 qK),jP (xR (xI B))⟩):=qI rfl;have Gy:Hid ((qe (k80 qK)).size=64∧(jP (xR (xI B))).size=1032):=qI ⟨idS_size rfl,by rw [j7,bE]⟩;have Mc:=qI hl;have ap:(l.length:Int)≤2:=Ws;clear h hm hs hl f1 f2 f3 f4 f5 f6 am Q aj;generalize xR (xI B)=code at CE CX Gu Gy;generalize jP code=W at CX Gu Gy;generalize qe (k80 qK)=idk at CI Gu Gy;generalize rowS B=rw' at Gu ⊢;generalize k80 qK=kk at CP CI Gx ⊢;generalize ai:l.length=m at Gf O CM CB CC ap ⊢;have HM:=qI ai;clear ai;obtain⟨c0,c1,ah,c3,c4,c5⟩:=yz O.o;show Calls _ _ #[.agg #[.int .i64 kd,.int .i64 nm,.string st,.slice p1 i1 d1,.slice p2 i2 d2,.slice a m c],.pointer (some ⟨sg,0,none⟩)] _ _;go_enter func15,ntmps15;go_upto_region 1 with fail;refine yZ Gf.o ?_;go_upto_region 5 with (go_at_call 21;refine CM.o.mono ?_;rintro e w2 ⟨rfl,u⟩;have Gk:=qI u;obtain⟨y0,y1,y2,y3,y4,y5⟩:=VO u c0 c1 ah c3 c4 c5;clear u c0 c1 ah c3 c4 c5);have Gv:Hid (w.heap.size ∉ [mb]):=qI (by have:=Gs.o;simp;omega);go_upto_region 6 with first
  | (go_at_call 48;refine (CS.o _ _ _ Js.o Md.o).mono ?_;rintro e w4 ⟨⟨X,e1,a2,e2,rfl,an,al⟩,ak⟩;have Gi:=qI an;have Gj:=qI al;have Me:Hid (zb [mb] t w4):=qI ((Js.o.mono Wz).trans' ak);clear an al ak)
  | (go_at_call 20;refine (CB.o _ Gk.o).mono ?_;rintro e w3 ⟨⟨q,d,rfl,ae⟩,ag⟩;have Md:=qI ae;have Js:=qI (Gk.o.then ag);clear ae ag y0 y1 y2 y3 y4 y5)
 obtain⟨W5,Jm⟩:=XE (w4.alloc (.cells #[.int .i64 0,.slice X 8 e1,.slice a2 8 e2,.slice none 0 0] 87));have Gq:Hid (zb [] w4 W5):=qI (kA1 Jm.o);have Jd:Hid (zb6 W5 w4.heap.size 0 (.slice X 8 e1) (.slice a2 8 e2) (.slice none 0 0)):=qI (by rw [Jm.o];exact zd rfl);refine yZ Jm.o ?_;have Jt:Hid (zb [mb] t W5):=qI (Me.o.then Gq.o);have s0:=za (o:=0) Jd.o rfl;have s1:=za (o:=1) Jd.o rfl;have s2:=za (o:=2) Jd.o rfl;have s3:=za (o:=3) Jd.o rfl;have au:=qI (CE.o W5 X e1 a2 e2 (Slc.k0 Gi.o Gq.o) (Slc.k0 Gj.o Gq.o));go_upto_region 11 with (go_at_call 49;refine au.o.mono ?_;rintro e w6 ⟨⟨a6,c6,rfl,ab⟩,Y⟩;have Mf:=qI ab;have Je:Hid (zb [mb] t w6):=qI (Jt.o.then Y);have z5:=(Jt.o.then Y).cell (za (o:=5) O.o rfl) Gv.o;clear ab Y s0 s1 s2 s3);go_upto_region 12 with first
  | (at_builtin;refine zz tySigs (m:=1) (news:=[.string idk,.string W]) (zk Ju.o (Gh.o.alloc (.cells #[.string idk,.string W] 38)) Wz) (yE aq [.string idk,.string W] 2 1 _ _ rfl rfl Wo) (by simp [Value.oneCell']) (by simp only [maxLen];omega) Ws (by have:=Gh.o.size;have:=Jn.o;simp;omega) rfl _ _ rfl rfl rfl ?_;intro av aa F L _ _;obtain⟨C,D,rfl,-,-⟩:=(Slc.of_row F).form;have Gz:=qI F;have Jo:Hid (zb [] w6 aa):=qI ((Ja.o.then (Gh.o.alloc _)).trans L (fun i hi=>.inr (Ju.o.lt i (XD hi)).1));clear F L)
  | (go_at_call 52;refine (CX.o _ _ _ (Slc.k0 Mf.o (Ja.o.then Jb.o))).mono ?_;rintro e aq ⟨rfl,R⟩;have Gh:=qI (Jb.o.then R);clear R)
  | (go_at_call 51;refine (CI.o _ (Jv.o.then Jc.o)).mono ?_;rintro e w9 ⟨rfl,af⟩;have Jb:=qI (Jc.o.then af);clear af)
  | (go_at_call 18;refine (CP.o _ Jv.o).mh ?_;rintro e w8 rfl Jc)
  | (go_at_call 50;refine (CC.o _ Je.o).mono ?_;rintro e w7 ⟨⟨a7,c7,rfl,ad⟩,J⟩;have Ju:=qI ad;have Ja:=qI J;have Jv:Hid (zb [mb] t w7):=qI (Je.o.then J);have Jn:=qI J.size;clear ad J z5)
 have K:Hid (zb [mb] t aa):=qI (Je.o.then Jo.o);have Mg:Hid (w.heap.size+1 ∉ [mb]):=qI (by have:=Gs.o;simp;omega);have x0:=K.o.cell (za (o:=0) O.o rfl) Gv.o;have x1:=K.o.cell (za (o:=1) O.o rfl) Gv.o;have x2:=K.o.cell (za (o:=2) O.o rfl) Gv.o;have x3:=K.o.cell (za (o:=3) O.o rfl) Gv.o;have x4:=K.o.cell (za (o:=4) O.o rfl) Gv.o;go_wp2_with (go_at_call 53;refine (CV.o _ K.o).mono ?_;rintro e I ⟨⟨z,E,A,Z,j1,f,q2,j2,h2,rfl,N⟩,G⟩;have Jp:=qI N;have Gr:=qI G;have M:=qI ((K.o.then G).heap Ji.o Mg.o);have r0:=za (o:=0) M.o rfl;have r1:=za (o:=1) M.o rfl;have r2:=za (o:=2) M.o rfl;have r3:=za (o:=3) M.o rfl;have r4:=za (o:=4) M.o rfl;have r5:=za (o:=5) M.o rfl;have rz:∀ j,I.frozen? ⟨w.heap.size+1,j,none⟩=false:=fun j=>zh M.o;clear N G x0 x1 x2 x3 x4);change bodyPost _ _ _ _ _ (Za I (w.heap.size+1) (.int .i64 z) (.int .i64 E) (.string A) (.slice Z j1 f) (.slice q2 j2 h2) (.slice C (m+1) D));have Gg:=kW I (w.heap.size+1) (.int .i64 z) (.int .i64 E) (.string A) (.slice Z j1 f) (.slice q2 j2 h2) (.slice C (m+1) D);have Gc:=vT M.o (.int .i64 z) (.int .i64 E) (.string A) (.slice Z j1 f) (.slice q2 j2 h2) (.slice C (m+1) D);generalize Za I (w.heap.size+1) (.int .i64 z) (.int .i64 E) (.string A) (.slice Z j1 f) (.slice q2 j2 h2) (.slice C (m+1) D)=WF at Gg Gc;obtain⟨y0,y1,y2,y3,y4,y5⟩:=yz Gc;refine bodyPost_ret (v:=.tuple #[.agg #[.int .i64 z,.int .i64 E,.string A,.slice Z j1 f,.slice q2 j2 h2,.slice C (m+1) D],.int .i64 0]) (by simp [results,results15,go_sem,y0,y1,y2,y3,y4,y5]) rfl ?_;have ax:w.heap.size+1<w6.heap.size:=by have h3:=lt_of_block Ji.o;have:=Je.o.size;omega
 have P:(l++[rw']).length=m+1:=by rw [XM,HM.o];rfl
 refine⟨⟨z,E,A,Z,j1,f,q2,j2,h2,C,D,rfl,?_,U.o.small,U.o.deep,?_,?_,?_⟩,(((K.o.then Gr.o).heap Gx.o (fun e=>by rw [XS] at e;exact xP Gw.o (zQ Gx.o) Wo e.symm)) |> fun h=>Gg.heap h (by have:=lt_of_block Mb.o;simp;omega)),?_⟩;·exact Jp.o.move Gg (fun g _ hg=>⟨by rw [XS];exact hg.2,hg.1⟩)
 ·have y:=Slc.of_row Gz.o;unfold ky;rw [zbJ,P];have h8:(rw').enc=[.string idk,.string W]:=by rw [Gu.o];rfl
  rw [h8];refine Slc.kept (Slc.k0 y Gr.o) Gg (fun g hg W=>?_);rw [XS] at W;have:=(Gz.o.lt g (yL hg)).1;omega
 ·intro r hr;rcases uO.1 hr with y | y;·exact U.o.texts r y
  ·rw [XS] at y;rw [y,Gu.o];exact⟨by show idk.size≤_;have:=Gy.o.1;omega,by show W.size≤_;have:=Gy.o.2;omega⟩
 ·have:=Mc.o;rw [P];have:=HM.o;omega
 ·exact (((Ge.o.mono Wz).trans' K.o).then Gr.o).trans Gg (by intro b hb;rw [XS] at hb;subst hb;exact .inr Ws)
theorem gtext_pos {v:VS (V n)}{x:V n}(h:vJ v s=some x)(h3:qo n x=4)(a:((bw n x).size:Int)≤most):jC v false s most=(bw n x,false):=by
 unfold jC jt;rw [h];simp only [uM,if_false];rw [XK ⟨h3,by simp [a]⟩]
theorem gmap_pos {v:VS (V n)}{x:V n}(h:vJ v s=some x)(h3:qo n x=6):zbr v false s=(some x,false):=by
 unfold zbr jt;rw [h];simp only [uM,if_false];rw [XK ⟨h3,trivial⟩]
theorem glist_pos {v:VS (V n)}{x:V n}(h:vJ v s=some x)(h3:qo n x=5)(a:(vI n x:Int)≤most):bu v false s most=(some x,false):=by
 unfold bu jt;rw [h];simp only [uM,if_false];rw [XK ⟨h3,by simp [a]⟩]
abbrev QW:ByteArray:=⟨#[107,101,121,105,100]⟩
abbrev Q5:ByteArray:=⟨#[115,105,103]⟩
abbrev bN:ByteArray:=⟨#[115,105,103,110,97,116,117,114,101,115]⟩
abbrev JL:ByteArray:=⟨#[115,105,103,110,101,100]⟩
abbrev YI:ByteArray:=⟨#[95,116,121,112,101]⟩
abbrev Qq:ByteArray:=⟨#[114,111,111,116]⟩
def jT (r:yg):V 10:=(vD [(QW,(kB r.id:VS (V 8))),(Q5,kB r.sig)]:VS (V 9))
def qg (v:V 11)(l:List yg):V 12:=(vD [(bN,(jL (l.map jT):VS (V 10))),(JL,v)]:VS (V 11))
def v0:V 11:=(vD [(YI,(kB Qq:VS (V 9)))]:VS (V 10))
theorem sort2 (a b:ByteArray×α)(d:leK a b=true):([a,b]:List (ByteArray×α)).mergeSort leK=[a,b]:=by
 refine List.mergeSort_of_pairwise ?_;simp only [List.pairwise_cons,XY,Xi,uC,forall_eq,List.Pairwise.nil,false_imp_iff,implies_true,and_true];exact d
theorem sort1 (a:ByteArray×α):([a]:List (ByteArray×α)).mergeSort leK=[a]:=by
 refine List.mergeSort_of_pairwise ?_;simp
theorem J0 (s:ByteArray):zK (n+1) (kB s:VS (V n))=(kB s:VS (V n)):=by
 show (⟨4,0,_,_,List.mergeSort _ _⟩:VS (V n))=_;rw [show ((kB s:VS (V n)).m.map (fun p=>(p.1,zK n p.2)))=[] from rfl,List.mergeSort_nil];rfl
theorem sort_sigV (r:yg):zK 10 (jT r)=jT r:=by
 show (⟨6,0,_,_,List.mergeSort [(_,zK 9 _),(_,zK 9 _)] _⟩:VS (V 9))=_;rw [J0,J0,sort2 _ _ Wk];rfl
theorem sort_v0:zK 11 v0=v0:=by
 show (⟨6,0,_,_,List.mergeSort [(_,zK 10 _)] _⟩:VS (V 10))=_;rw [J0,sort1];rfl
theorem YW (l:List yg):zK 12 (qg v0 l)=qg v0 l:=by
 show (⟨6,0,_,_,List.mergeSort [(_,zK 11 _),(_,zK 11 _)] _⟩:VS (V 11))=_;have e:zK 11 (jL (l.map jT):VS (V 10))=(jL (l.map jT):VS (V 10)):=by show (⟨5,0,_,(l.map jT).map (zK 10),List.mergeSort [] _⟩:VS (V 10))=_;rw [List.mergeSort_nil,uL,show (zK 10 ∘ jT)=jT from funext sort_sigV];rfl
 rw [sort_v0,e,sort2 _ _ Wk];rfl
theorem litsE:zv QW=true∧zv Q5=true∧zv bN=true∧zv JL=true∧zv YI=true∧zv Qq=true:=
 ⟨qJ Wo,qJ Wo,qJ Wo,qJ Wo,qJ Wo,qJ Wo⟩
theorem right_v0:zn 11 v0=true:=by
 refine vW (n:=10) _ (by simp only [XS,forall_eq];exact litsE.2.2.2.2.1) Wz ?_;intro p hp;rw [XS] at hp;rw [hp];exact j0 (n:=9) _ litsE.2.2.2.2.2
theorem right_sigV (a:zv r.id=true)(h2:zv r.sig=true):zn 10 (jT r)=true:=by
 refine vW (n:=9) _ ?_ (by simp only [Xf,X3];decide) ?_
 ·intro p hp;simp only [XY,Xi,uC] at hp;rcases hp with rfl | rfl;·exact litsE.1
  ·exact litsE.2.1
 ·intro p hp;simp only [XY,Xi,uC] at hp;rcases hp with rfl | rfl;·exact j0 (n:=8) _ a
  ·exact j0 (n:=8) _ h2
theorem right_env (h:∀ r,r∈l→zv r.id=true∧zv r.sig=true):zn 12 (qg v0 l)=true:=by
 refine vW (n:=11) _ ?_ (by simp only [Xf,X3];decide) ?_
 ·intro p hp;simp only [XY,Xi,uC] at hp;rcases hp with rfl | rfl;·exact litsE.2.2.1
  ·exact litsE.2.2.2.1
 ·intro p hp;simp only [XY,Xi,uC] at hp;rcases hp with rfl | rfl;·refine right_list _ (fun p hp=>?_);obtain⟨r,a,rfl⟩:=Xm.1 hp;exact right_sigV (h r a).1 (h r a).2
  ·exact right_v0
theorem check_v0:zV 11 v0=0:=ql.2 ⟨by show (2:Nat)≤12;decide,by show (2:Nat)≤4096;decide,right_v0⟩
theorem check_one (a:zv r.id=true)(h2:zv r.sig=true):zV 12 (qg v0 [r])=0:=
 ql.2 ⟨by show (4:Nat)≤12;decide,by show (7:Nat)≤4096;decide,right_env (by simp [a,h2])⟩
theorem check_none:zV 12 (qg v0 [])=0:=
 ql.2 ⟨by show (3:Nat)≤12;decide,by show (4:Nat)≤4096;decide,right_env Wz⟩
theorem bytes_one (r:yg):zW 12 (qg v0 [r])=33+r.id.size+r.sig.size:=by
 have e:zW 12 (qg v0 [r])=0+(10+(6+0))+((0+0+((0+(5+(3+0))+((r.id.size+0+0)+((r.sig.size+0+0)+0)))+0))+((0+(5+0)+((4+0+0)+0))+0)):=rfl;rw [e];omega
theorem enc_one (d:zv r.id=true)(h2:zv r.sig=true)(e:r.id.size+r.sig.size≤4000):xV 12 (qg v0 [r])=(zr 12 (qg v0 [r]),0):=by
 have hc:=check_one d h2;have b:=QG 12 (qg v0 [r]) (ql.1 hc).2.2;have a:zp 12 (qg v0 [r])=7:=rfl;rw [bytes_one,a] at b;exact (QR.2 ⟨hc,by rw [YW];omega,by rw [YW]⟩)
theorem dec_one (b:zv r.id=true)(h2:zv r.sig=true)(a:r.id.size+r.sig.size≤4000):yH (xV 12 (qg v0 [r])).1 = .inr (qg v0 [r]):=by
 have h:=(dec_enc (enc_one b h2 a)).2.1;rw [YW] at h;rw [enc_one b h2 a];exact h
def textN:List UInt8:=[123,34,115,105,103,110,97,116,117,114,101,115,34,58,91,93,44,34,115,105,103,110,101,100,34,58,123,34,95,116,121,112,101,34,58,34,114,111,111,116,34,125,125]
theorem enc_none:xV 12 (qg v0 [])=(textN,0):=by
 have e:zr 12 (qg v0 [])=textN:=Wk;exact (QR.2 ⟨check_none,by rw [YW,e];decide,by rw [YW,e]⟩)
def vB:List UInt8:=[123,34,95,116,121,112,101,34,58,34,114,111,111,116,34,125]
theorem enc_v0:xV 11 v0=(vB,0):=by
 have e:zr 11 v0=vB:=Wk;exact (QR.2 ⟨check_v0,by rw [sort_v0,e];decide,by rw [sort_v0,e]⟩)
theorem env_may (l:List yg)(b:l.length≤16)(a:l.all xo=true):yd 11 v0 l=true:=by
 unfold yd;rw [a,XT b,XT check_v0];rfl
theorem body_v0 (h:yd 11 v0 l=true):kY 11 v0 l=vB:=by
 unfold kY;rw [XK h,enc_v0]
theorem key80:yl (k80 qK)=true:=rfl
def rS:yg:=rowS vB
theorem rS_id0:rS.id=qe (k80 qK):=by unfold rS rowS;rfl
theorem rS_sig0:rS.sig=jP (xR (xI vB)):=by unfold rS rowS;rfl
theorem key_fine {k:yY}(h:yl k=true):(qe k).size=64∧zv (qe k)=true∧Zx (qe k)=true:=by
 refine⟨idS_size h,?_,?_⟩;·unfold qe;rw [XK h];exact hexS_ok _
 ·unfold Zx qe;rw [XK h,unhex_hex];simp [yP]
theorem rS_id:rS.id.size=64∧zv rS.id=true∧Zx rS.id=true:=by
 rw [rS_id0];exact key_fine key80
theorem code_fine (m:List UInt8):(jP (xR (xI m))).size=1032∧zv (jP (xR (xI m)))=true∧xn (jP (xR (xI m)))=some (xR (xI m)):=⟨by rw [j7,bE],hexS_ok _,unhex_hex _⟩
theorem Kh:rS.sig.size=1032∧zv rS.sig=true∧xn rS.sig=some (xR (xI vB)):=by
 rw [rS_sig0];exact code_fine vB
theorem rS_row:xo rS=true:=by
 unfold xo;rw [rS_id.2.2,Kh.2.2,Kh.1];rfl
theorem za3:yd 11 v0 [rS]=true:=env_may _ Wo (by simp [rS_row])
theorem Qj:yd 11 v0 []=true:=env_may _ Wo rfl
theorem sigS_code (m:List UInt8):Y3 ((xR (xI m)).take 4)=0∧kH 8 0 (xR (xI m))=xI m:=by
 obtain⟨b,h2,h3,e,h,h6⟩:=JW m;have l:(vA (xI m).one).length=512:=by rw [JQ e h Ws,b]
 have hp:(j8 0 4).length=4:=xy _ _;have a:xR (xI m)=j8 0 4++(vA (xI m).one++[]):=by unfold xR;rw [Xv];rfl
 rw [Xn] at a;have d:(xR (xI m)).take 4=j8 0 4:=by rw [a,List.take_left' hp]
 have j:(xR (xI m)).drop 4=vA (xI m).one:=by rw [a,List.drop_left' hp]
 have f:Y3 (j8 0 4)=0:=Wo;refine⟨by rw [d,f],?_⟩;unfold kH;have k:((xR (xI m)).drop 4).take (64*8)=vA (xI m).one:=by rw [j,Xl Ws]
 have i:=dec_code e h Ws;rw [b] at i;rw [d,f,k,i];rfl
theorem good_sigS (m:List UInt8):goodB (k80 qK) m (xR (xI m))=true:=by
 obtain⟨b,h2⟩:=sigS_code m;have a:=bE m;have e:goodB (k80 qK) m (xR (xI m))=(yl (k80 qK)&&(bO 8 0 (xR (xI m))&&verS qK m (kH 8 0 (xR (xI m))))):=rfl;have hv:verS qK m (xI m)=true:=by unfold verS;rw [XR,Xa,Xa];refine⟨by show 0<2 ^ 0;decide,?_⟩;have d:jB m (xI m).one=YX 0:=impl_sign [115] 0 8 m;rw [d];rfl
 rw [e,h2,hv,ub,XR];refine⟨rfl,?_⟩;unfold bO;rw [a,b,XR,Xa,Xa];exact⟨rfl,Ws⟩
theorem holds_one:Kw 11 v0 [rS] rS (k80 qK)=true:=by
 unfold Kw;rw [za3,body_v0 za3,Bool.true_and,XR,Xa];refine⟨rS_id0,?_⟩;rw [Kh.2.2,VB];exact good_sigS vB
end Go.Proofs.YtjccecajigmfkaaGreatDoor

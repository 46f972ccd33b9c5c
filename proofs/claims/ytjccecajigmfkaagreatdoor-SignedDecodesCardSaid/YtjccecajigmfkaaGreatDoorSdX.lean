/- Parts of one proof, merged: XCS XCT. -/
import Derived.Test.YtjccecajigmfkaaGreatDoorSdW
set_option linter.all false
set_option maxHeartbeats 12800000
set_option maxRecDepth 100000
namespace Go.Proofs.YtjccecajigmfkaaGreatDoor
open Go.Proofs.Tryz
open Go.RowKit
attribute [local go_sem] Oper.semAt_some
variable {l:List UInt8}{w:World}
abbrev zb6 (w:World)(g:Nat)(n:Int)(a b c:Value):Prop:=w.heap[g]? = some (.cells #[.int .i64 n,a,b,c] 87 (0,0))
def QY (w:World)(g:Nat)(n:Int)(a b c:Value):World:=(((w.setCell ⟨g,0,none⟩ (.int .i64 n)).setCell ⟨g,1,none⟩ a).setCell ⟨g,2,none⟩ b).setCell ⟨g,3,none⟩ c
theorem vX (w:World)(g:Nat)(n:Int)(a b c:Value):zb [g] w (QY w g n a b c):=((((zb.refl [g] w).setCell (.inl Wz) _).setCell (.inl Wz) _).setCell (.inl Wz) _).setCell (.inl Wz) _
theorem QN {g:Nat}{c0 c1 c2 c3:Value}{t:Nat}{f:Nat×Nat}(h:w.heap[g]? = some (.cells #[c0,c1,c2,c3] t f))(n:Int)(a b c:Value):(QY w g n a b c).heap[g]? = some (.cells #[.int .i64 n,a,b,c] t f):=by
 unfold QY;have e:=ze (i:=0) (v:=.int .i64 n) (d:=#[.int .i64 n,c1,c2,c3]) h rfl;have h2:=ze (i:=1) (v:=a) (d:=#[.int .i64 n,a,c2,c3]) e rfl;have h3:=ze (i:=2) (v:=b) (d:=#[.int .i64 n,a,b,c3]) h2 rfl;exact ze (i:=3) (v:=c) (d:=#[.int .i64 n,a,b,c]) h3 rfl
theorem zcw (k:yY)(ao:YR k.bits)(hr:k.root.length=32){a:Option Addr}{c:Nat}(hb:zm w (.slice a l.length c) l)(aW:l.length≤1000000) : Calls prog 59 #[.agg (yV k),.slice a l.length c] w fun e w'=>J6 w w' e k l∧zb [] w w':=by
 obtain⟨W1,Ge⟩:=XE ((w.alloc (.cells (yV k) 51)).alloc (.cells #[.int .i64 0,.slice none 0 0,.slice none 0 0,.slice none 0 0] 87));have Gf:Hid (zb [] w W1):=qI (kA2 Ge.o);have HA:Hid (yS W1 w.heap.size k):=qI (by rw [Ge.o];exact ((zb.refl [] _).alloc _).heap (zd rfl) Wz);have Ms:Hid (zb6 W1 (w.heap.size+1) 0 (.slice none 0 0) (.slice none 0 0) (.slice none 0 0)):=qI (by rw [Ge.o];exact zd Wz);have b2:W1.heap.size=w.heap.size+2:=by rw [Ge.o];simp
 have CM:=qI (bV k ao W1);have Jd:=qI hr;have Gs:Hid (∀ (w':World) (e:Ending) (z:Int),z≠0→-1000≤z→z≤1000→¬ (yl k=true∧bO k.bits.toNat k.height.toNat l=true)→e = .returned (.tuple #[.agg #[.int .i64 0,.slice none 0 0,.slice none 0 0,.slice none 0 0],.int .i64 z])→J6 w w' e k l):=qI (fun w' e z C h2 h3 h4 h5=>by unfold J6;rw [XJ h4];exact⟨z,C,h2,h3,h5⟩);by_cases hm:yl k=true;rotate_left
 ·have Ye:Hid (¬ (yl k=true∧bO k.bits.toNat k.height.toNat l=true)):=qI (fun h=>hm h.1);have aP:yl k=false:=by cases h:yl k <;> simp_all
  rw [aP] at CM;clear ao hr hb aW hm aP;generalize l.length=ln;go_enter func59,ntmps59;go_upto_region 1 with fail;refine yZ Ge.o ?_;go_wp2_with first
   | (refine yN Wk (.tmp 2) Wk HA.o Jd.o Wk ?_)
   | (go_at_call 44;refine CM.o.mono ?_;rintro e w2 ⟨rfl,ap⟩;have X:=ap.heap Ms.o Wz;have Yf:=qI X;have r0:=za (o:=0) X rfl;have r1:=za (o:=1) X rfl;have r2:=za (o:=2) X rfl;have r3:=za (o:=3) X rfl;have z:∀ j,w2.frozen? ⟨w.heap.size+1,j,none⟩=false:=fun j=>zh X;have Gm:=qI ap;clear ap X)
  change bodyPost _ _ _ _ _ (QY w2 (w.heap.size+1) 0 (.slice none 0 0) (.slice none 0 0) (.slice none 0 0));have O:=vX w2 (w.heap.size+1) 0 (.slice none 0 0) (.slice none 0 0) (.slice none 0 0);have M:=QN Yf.o 0 (.slice none 0 0) (.slice none 0 0) (.slice none 0 0);generalize QY w2 (w.heap.size+1) 0 (.slice none 0 0) (.slice none 0 0) (.slice none 0 0)=WF at O M;have y0:=za (o:=0) M rfl;have y1:=za (o:=1) M rfl;have y2:=za (o:=2) M rfl;have y3:=za (o:=3) M rfl;refine bodyPost_ret (v:=.tuple #[.agg #[.int .i64 0,.slice none 0 0,.slice none 0 0,.slice none 0 0],.int .i64 1]) (by simp [results,results59,go_sem,y0,y1,y2,y3]) rfl ⟨Gs.o _ _ 1 Wo Wo Wo Ye.o rfl,?_⟩;exact (Gf.o.then Gm.o).trans O (by intro i H;simp at H;subst H;exact .inr Ws)
 rw [hm] at CM;have aq:=hm;unfold yl xw at aq;simp only [XR,Xa] at aq;obtain⟨r,am⟩:∃ r:Nat,k.bits=(r:Int):=⟨k.bits.toNat,Ws⟩;obtain⟨s,aE⟩:∃ s:Nat,k.height=(s:Int):=⟨k.height.toNat,Ws⟩;have au:xw r=true:=by unfold yl at hm;rw [am] at hm;simp only [XR] at hm;exact hm.1
 have bm:(r:Int)≤256:=Ws;have bs:(s:Int)≤6:=Ws;have Je:=qI (And.intro am aE);have Yg:=qI au;have Ju:=qI hm;have CF:=qI (fun (w2:World) (hk:zb [] W1 w2)=>from_any (w:=w2) ((hb.k0 Gf.o).k0 hk) (by unfold lim;omega));obtain⟨u,Gc⟩:=XE (rdN l);obtain⟨R2,Gi⟩:=XE (rdB (64*r) u.2.1 u.2.2);obtain⟨E,Gt⟩:=XE (rdB (32*s) R2.2.1 R2.2.2);obtain⟨n2,Gy⟩:∃ n2,Hid (R2.1.length=n2):=⟨_,qI rfl⟩;obtain⟨n3,Jf⟩:∃ n3,Hid (E.1.length=n3):=⟨_,qI rfl⟩;have Jg:Hid (u.2.1.length≤1000000):=qI (by rw [Gc.o];unfold rdN;split <;> simp <;> omega);have Jv:Hid (R2.2.1.length≤1000000):=qI (by have Q:=Jg.o;rw [Gi.o];unfold rdB;split <;> simp <;> omega);have CI:Hid (∀ (w2:World) (p:Nat),vV w2 p l false→Calls prog 106 #[.pointer (some ⟨p,0,none⟩),.int .i64 4] w2 fun e w'=>e = .returned (.int .i64 u.1)∧vV w' p u.2.1 u.2.2∧zb [p] w2 w'):=qI (fun w2 p h=>by rw [Gc.o];exact rdInt_any h (by unfold lim;omega));have aV:Hid (∀ (w2:World) (p:Nat),vV w2 p u.2.1 u.2.2→Calls prog 107 #[.pointer (some ⟨p,0,none⟩),.int .i64 (64*(r:Int))] w2 fun e w'=>(∃ a c,e = .returned (.slice a n2 c)∧zm w' (.slice a n2 c) R2.1∧(∀ g,yt (.slice a n2 c)=some g→w2.heap.size≤g))∧vV w' p R2.2.1 R2.2.2∧zb [p] w2 w'):=qI (fun w2 p h=>by
  have C:=YV h (64*r) Ws (by have:=Jg.o;unfold lim;omega);rw [← Gi.o,Gy.o,show ((64*r:Nat):Int)=64*(r:Int) by omega] at C;exact C)
 have aT:Hid (∀ (w2:World) (p:Nat),vV w2 p R2.2.1 R2.2.2→Calls prog 107 #[.pointer (some ⟨p,0,none⟩),.int .i64 (32*(s:Int))] w2 fun e w'=>(∃ a c,e = .returned (.slice a n3 c)∧zm w' (.slice a n3 c) E.1∧(∀ g,yt (.slice a n3 c)=some g→w2.heap.size≤g))∧vV w' p E.2.1 E.2.2∧zb [p] w2 w'):=qI (fun w2 p h=>by
  have C:=YV h (32*s) Ws (by have:=Jv.o;unfold lim;omega);rw [← Gt.o,Jf.o,show ((32*s:Nat):Int)=32*(s:Int) by omega] at C;exact C)
 have CD:Hid (∀ (w2:World) (p:Nat),vV w2 p E.2.1 E.2.2→Calls prog 108 #[.pointer (some ⟨p,0,none⟩)] w2 fun e w'=>e = .returned (.int .i64 (if E.2.2=false∧E.2.1=[] then 0 else 11))∧w2=w'):=qI (fun w2 p h=>rdDone_any h);have Mt:Hid ((E.2.2=false∧E.2.1=[])↔l.length=4+64*r+32*s):=qI (by rw [Gt.o,Gi.o,Gc.o];exact rd_chain _ _ _);have Gz:Hid (k.bits.toNat=r∧k.height.toNat=s):=qI Ws;have bb:(u.1:Int)<4294967296:=by
  have C:u.1<4294967296:=by
   rw [Gc.o];unfold rdN;split;·have h2:=numB_lt (l.take 4);rw [Xe,Nat.min_eq_left Ws] at h2;exact h2
   ·decide
  omega
 clear aq hm am aE au hb hr ao;generalize hD:(if E.2.2=false∧E.2.1=[] then (0:Int) else 11)=D at CD;generalize ay:l.length=ln at CF;have Mu:=qI hD;clear hD;have Yw:=qI ay;clear ay;refine callsIn_wide.1 (callsIn_of_wp_marks (F:=Fence.wide) (n:=3) func59 rfl trivial ?_ rfl);refine wpIn_wide.2 ?_;simp only [ntmps59,X2,XP,Xo,Nat.reduceAdd,Nat.reduceSub,Array.replicate_succ,Array.replicate_zero,List.push_toArray,List.append_toArray,X8,uU];go_upto_region 1 with fail;refine yZ Ge.o ?_;go_upto_region 4 with first
  | (refine yN Wk (.tmp 2) Wk HA.o Jd.o Wk ?_)
  | (go_at_call 44;refine CM.o.mh ?_;rintro e w2 rfl Gm)
  | (go_at_call 105;refine (CF.o _ Gm.o).mono ?_;rintro e w3 ⟨⟨p,hp,rfl,G⟩,aI⟩;have Jw:=qI G;have Jx:Hid (zb [] W1 w3):=qI (Gm.o.then aI);have HP:Hid (w.heap.size+2≤p):=qI (XC Gm.o.size);clear aI G hp)
 go_upto_region 5 with (go_at_call 106;refine (CI.o _ _ Jw.o).mono ?_;rintro e w4 ⟨rfl,G,a0⟩;have Jh:=qI G;have Jy:=qI a0;clear a0 G);obtain⟨W5,Jz⟩:=XE (w4.alloc (.cells #[.int .i64 u.1,.slice none 0 0,.slice none 0 0,.slice none 0 0] 87));have al:Hid (zb [] w4 W5):=qI (kA1 Jz.o);have Gn:Hid (zb [p] W1 W5):=qI (((Jx.o.mono Wz).trans' Jy.o).then al.o);have Ma:Hid (zb6 W5 w4.heap.size u.1 (.slice none 0 0) (.slice none 0 0) (.slice none 0 0)):=qI (by rw [Jz.o];exact zd rfl);have Mb:=qI (Jh.o.k0 al.o);have Gd:Hid (p<w4.heap.size):=qI Jh.o.lt;rw [← Jz.o];have Mv:Hid (yS W5 w.heap.size k):=qI (Gn.o.heap HA.o (by have:=HP.o;simp;omega));have c0:=Mv.o.c0;rw [Je.o.1] at c0;have Gu:Hid (w4.heap.size<W5.heap.size):=qI (lt_of_block Ma.o);generalize b1:w4.heap.size=gs at Ma Gd Gu;go_upto_region 6 with (go_at_call 107;refine (aV.o _ _ Mb.o).mono ?_;rintro e w6 ⟨⟨a6,c6,rfl,ah,aM⟩,G,ab⟩;have Yh:=qI ah;have Yi:=qI aM;have Mc:=qI G;have Gp:=qI ab;clear ab G ah aM);have Yj:Hid (yS w6 w.heap.size k):=qI (Gp.o.heap Mv.o (by have:=HP.o;simp;omega));clear c0;have c1:=Yj.o.c1;rw [Je.o.2] at c1;go_upto_region 7 with (go_at_call 107;refine (aT.o _ _ Mc.o).mono ?_;rintro e y ⟨⟨a7,c7,rfl,aL,aJ⟩,G,aw⟩;have Mw:=qI aL;have Yk:=qI aJ;have Gv:=qI G;have Md:=qI aw;clear aw G aL aJ);clear c1;have Me:Hid (zb6 y gs u.1 (.slice none 0 0) (.slice none 0 0) (.slice none 0 0)):=qI (Md.o.heap (Gp.o.heap Ma.o (by have:=Gd.o;simp;omega)) (by have:=Gd.o;simp;omega));have Ji:Hid (zb [p] W1 y):=qI ((Gn.o.trans' Gp.o).trans' Md.o);have Gq:=qI (Ji.o.heap Ms.o (by have:=HP.o;simp;omega));have r0:=za (o:=0) Gq.o rfl;have r1:=za (o:=1) Gq.o rfl;have r2:=za (o:=2) Gq.o rfl;have r3:=za (o:=3) Gq.o rfl;have z:∀ j,y.frozen? ⟨w.heap.size+1,j,none⟩=false:=fun j=>zh Gq.o;have q0:=za (o:=0) Me.o rfl;have Gw:Hid (zb [] w y):=qI (Gf.o.trans Ji.o (by intro i H;simp at H;subst H;exact .inr (XC HP.o)));have Jj:Hid (¬ (l.length=4+64*r+32*s∧u.1≤1073741824)→¬ (yl k=true∧bO k.bits.toNat k.height.toNat l=true)):=qI (fun h h2=>by
  have h3:=h2.2;rw [Gz.o.1,Gz.o.2] at h3;unfold bO at h3;simp only [XR,Xa] at h3;refine h ⟨h3.1,?_⟩;rw [Gc.o,(rd_vals (64*r) (32*s) l h3.1).1];exact h3.2)
 by_cases aa:l.length=4+64*r+32*s;rotate_left
 ·have ar:D=11:=by rw [← Mu.o];exact XJ (fun h=>aa (Mt.o.1 h))
  subst ar;go_wp2_with (go_at_call 108;refine (CD.o _ _ Gv.o).mono ?_;rintro e w' ⟨rfl,rfl⟩);change bodyPostM _ _ _ _ _ _ _ (QY y (w.heap.size+1) 0 (.slice none 0 0) (.slice none 0 0) (.slice none 0 0));have O:=vX y (w.heap.size+1) 0 (.slice none 0 0) (.slice none 0 0) (.slice none 0 0);have M:=QN Gq.o 0 (.slice none 0 0) (.slice none 0 0) (.slice none 0 0);generalize QY y (w.heap.size+1) 0 (.slice none 0 0) (.slice none 0 0) (.slice none 0 0)=WF at O M;have y0:=za (o:=0) M rfl;have y1:=za (o:=1) M rfl;have y2:=za (o:=2) M rfl;have y3:=za (o:=3) M rfl;refine⟨.tuple #[.agg #[.int .i64 0,.slice none 0 0,.slice none 0 0,.slice none 0 0],.int .i64 11],by simp [results,results59,go_sem,y0,y1,y2,y3],Gs.o _ _ 11 Wo Wo Wo (Jj.o (fun h=>aa h.1)) rfl,?_⟩;exact Gw.o.trans O (by intro i H;simp at H;subst H;exact .inr Ws)
 have aY:D=0:=by rw [← Mu.o];exact XK (Mt.o.2 aa)
 subst aY;by_cases an:u.1≤1073741824;rotate_left
 ·have bd:(1073741824:Int)<u.1:=by omega
  go_wp2_with (go_at_call 108;refine (CD.o _ _ Gv.o).mono ?_;rintro e w' ⟨rfl,rfl⟩);change bodyPostM _ _ _ _ _ _ _ (QY y (w.heap.size+1) 0 (.slice none 0 0) (.slice none 0 0) (.slice none 0 0));have O:=vX y (w.heap.size+1) 0 (.slice none 0 0) (.slice none 0 0) (.slice none 0 0);have M:=QN Gq.o 0 (.slice none 0 0) (.slice none 0 0) (.slice none 0 0);generalize QY y (w.heap.size+1) 0 (.slice none 0 0) (.slice none 0 0) (.slice none 0 0)=WF at O M;have y0:=za (o:=0) M rfl;have y1:=za (o:=1) M rfl;have y2:=za (o:=2) M rfl;have y3:=za (o:=3) M rfl;refine⟨.tuple #[.agg #[.int .i64 0,.slice none 0 0,.slice none 0 0,.slice none 0 0],.int .i64 11],by simp [results,results59,go_sem,y0,y1,y2,y3],Gs.o _ _ 11 Wo Wo Wo (Jj.o (fun h=>an h.2)) rfl,?_⟩;exact Gw.o.trans O (by intro i H;simp at H;subst H;exact .inr Ws)
 have hq:decide ((1073741824:Int)<(u.1:Int))=false:=XO Ws;have Yl:=qI an;obtain⟨v1,v2,v3⟩:=rd_vals (64*r) (32*s) l aa;rw [← Gc.o] at v1 v2 v3;rw [← Gi.o] at v2 v3;rw [← Gt.o] at v3;have Ym:Hid (n2=64*r):=qI (by rw [← Gy.o,v2,Xe,XW];omega);have Jk:Hid (n3=32*s):=qI (by rw [← Jf.o,v3,Xe,XW];omega);have HV:=qI (And.intro v1 (And.intro v2 v3));have Jl:Hid (32*s≤c7∧c7≤maxLen):=qI (by
  obtain⟨a',c',h3,h4,h5⟩:=Mw.o.form;simp only [XU] at h3;obtain⟨-,-,rfl⟩:=h3;exact⟨by rw [← Jk.o,← Jf.o];exact h4,h5⟩)
 obtain⟨bk,off,Mx,Mf⟩:∃ bk off,Hid (0<s→a7=some ⟨bk,off,none⟩)∧Hid (0<s→Row y bk off (E.1.map bv)):=by
  rcases VD s with h0 | h0;·exact⟨0,0,qI (fun h=>absurd h Ws),qI (fun h=>absurd h Ws)⟩
  ·obtain⟨g,o,C,-,h2⟩:=jR (size:=1) (n:=n3) (by have Q:=Mw.o;unfold zm at Q;rw [Jf.o] at Q;exact Q) (by rw [Jk.o];omega);exact⟨g,o,qI (fun _=>C),qI (fun _=>h2)⟩
 have aZ:=qI (zbR a7 n3 c7 32 Wo Wo y);have Mg:=qI (fun (w9:World) (ad:zm w9 (.slice a6 n2 c6) R2.1)=>(by
  have Q:=lamDecode_any (w:=w9) (N:=r) (l:=R2.1) (by rw [Gy.o];exact ad) (by rw [Gy.o];exact Ym.o) Yg.o;rw [Gy.o] at Q;exact Q:_))
 have Mh:=qI aa;clear v1 v2 v3 aa an bb;go_wp2_with first
  | (go_at_call 108;refine (CD.o _ _ Gv.o).mono ?_;rintro e w' ⟨rfl,rfl⟩)
  | (go_at_call 109;refine aZ.o.mono ?_;rintro e w' ⟨rfl,rfl⟩)
 obtain⟨W8,Jm⟩:=XE ((y.alloc (.cells #[.slice a7 n3 c7] 32)).alloc (.cells #[.int .i64 32] 3));have My:Hid (zb [] y W8):=qI (kA2 Jm.o);have Mz:Hid (W8.heap[y.heap.size]? = some (.cells #[.slice a7 n3 c7] 32 (0,0))):=qI (by
  rw [Jm.o];exact ((zb.refl [] _).alloc _).heap (zd rfl) Wz)
 have Ya:Hid (W8.heap[y.heap.size+1]? = some (.cells #[.int .i64 32] 3 (0,0))):=qI (by
  rw [Jm.o];exact zd (by rw [World.size_alloc]))
 have ag:Hid (W8.heap.size=y.heap.size+2):=qI (by rw [Jm.o];simp);have Ja:Hid (gs<y.heap.size):=qI (lt_of_block Me.o);have Yn:Hid (bJ y gs W8 u.1 none 0 []):=qI ⟨My.o.mono Wz,My.o.heap Me.o Wz,World.ownsRow_nil _ _ _ _⟩;rw [← Jm.o];refine (wpIn_wide (n:=3)).1 ?_
 refine wpIn_rangeFunc_ownG (F:=Fence.wide) (n:=3) rfl Wo (gf:=161) (lb:=#[.pointer (some ⟨y.heap.size,0,none⟩),.pointer (some ⟨y.heap.size+1,0,none⟩)]) rfl trivial (enters_of func161 Wr rfl)
  (JF 2 y.heap.size (y.heap.size+1) s 32 Wo Wo Wo Ws a7 bk off c7 Mx.o Jl.o.1 Jl.o.2 W8 (by rw [← Jk.o];exact za Mz.o rfl) (za Ya.o rfl))
  (fun h k=>⟨k.1.trans h.1,k.2.trans h.2⟩) (fun W l o o' hl _ _ _=>⟨World.putObj_heap_other (XC ag.o),World.putObj_heap_other (XC ag.o)⟩) (Below.refl _ _) (fun _=>rfl)
  (fun pre W=>WayR s E.1 y gs u.1 y.heap.size pre W) (fun _ _ _=>False)
  (fun pre A B row hs J hr=>by
   obtain⟨U,c1,h⟩:=hs.val;have aN:∀ k c t f,A.heap[k]? = some (Obj.cells c t f)→B.heap[k]? = some (Obj.cells c t f):=fun k c t f hc=>(J.block k (lt_of_block hc) (fun e=>by
    obtain⟨ob,C,h2⟩:=(hr k e.symm).2;rw [hc] at C;cases C;cases h2)).trans hc
   obtain⟨d0,f0,e0⟩:=hs.box0;obtain⟨d1,f1,e1⟩:=hs.box1;exact⟨⟨U,c1,h.grown J (fun k e=>⟨by have:=(hr k e).1;have:=ag.o;omega,(hr k e).2⟩)⟩,⟨d0,f0,aN _ _ _ _ e0⟩,⟨d1,f1,aN _ _ _ _ e1⟩⟩)
  (fun _ _ _ _ _ hs _ _=>hs)
  ⟨⟨none,0,Yn.o⟩,⟨_,_,Mz.o⟩,⟨_,_,Ya.o⟩⟩
  (fun x=>{ tmps:=#[.agg (yV k),.slice a ln c,.pointer (some ⟨w.heap.size,0,none⟩),undef,.pointer (some ⟨w.heap.size+1,0,none⟩),.int .i64 0,.pointer (some ⟨p,0,none⟩),.pointer (some ⟨gs,0,none⟩),.slice a6 n2 c6,.slice a7 n3 c7,.slice (some ⟨bk,off+32*x.val,none⟩) 32 32,.agg (yV k),.bool true,.bool false,undef,.slice a ln c,.pointer (some ⟨p,0,none⟩),.pointer (some ⟨p,0,none⟩),.int .i64 u.1,.agg #[.int .i64 u.1,.slice none 0 0,.slice none 0 0,.slice none 0 0],.pointer (some ⟨p,0,none⟩),.pointer (some ⟨w.heap.size,0,none⟩),.int .i64 r,.int .i64 (64*(r:Int)),.slice a6 n2 c6,.pointer (some ⟨p,0,none⟩),.pointer (some ⟨w.heap.size,1,none⟩),.int .i64 s,.int .i64 (32*(s:Int)),.slice a7 n3 c7,.pointer (some ⟨p,0,none⟩),.int .i64 0,.bool false,.bool false,.pointer (some ⟨gs,0,none⟩),.int .i64 u.1,.bool false,.bool false,undef,.slice a7 n3 c7,.func (.func 161) #[] #[.pointer (some ⟨y.heap.size,0,none⟩),.pointer (some ⟨y.heap.size+1,0,none⟩)],.slice (some ⟨bk,off+32*x.val,none⟩) 32 32,undef,undef,undef,undef,undef,undef,undef,undef,undef,undef,undef,undef,undef,undef,undef],defers:=[] }) ?assign ?body ?done ?stop
 case assign=>
  intro l' x W K hK
  gi_wp2
  exact hK
 case body=>
  rintro l' pre xi W ⟨⟨L,c3,I⟩,⟨d0,e0,av⟩,⟨b3,e1,ai⟩⟩ hlen;have Mi:=qI av;have Mj:=qI ai;have Gr:=qI I;have ax:=Mf.o Ws;have aU:gs≠bk:=fun e=>by have C:=Mx.o Ws;have h2:=Yk.o bk (by rw [C];exact QD (by rw [Jk.o];omega));have:=Gp.o.size;have:=Gu.o;omega
  obtain⟨aB,aK⟩:=cut_row (i:=xi.val) (ax.kept I.kept (by simp;exact fun e=>aU e.symm)) (by rw [Jf.o];exact Jk.o) xi.isLt;have Jr:=qI aK;have Mk:=qI aB;have Gj:Hid ((pre.map fun i=>(E.1.drop (32*i.val)).take 32).length=pre.length):=qI Wz;have f0:W.cell? ⟨gs,3,none⟩=some (.slice L pre.length c3):=by have Q:=za (o:=3) (v:=.slice L (pre.map fun i=>(E.1.drop (32*i.val)).take 32).length c3) I.box rfl;rw [Gj.o] at Q;exact Q
  have Ml:Hid (((pre++[xi]).map fun i=>(E.1.drop (32*i.val)).take 32)=(pre.map fun i=>(E.1.drop (32*i.val)).take 32)++[(E.1.drop (32*xi.val)).take 32]):=qI Wz;generalize (E.1.drop (32*xi.val)).take 32=x1 at Jr Mk Ml;have Gd:Hid (pre.length≤256):=qI Ws;generalize (pre.map fun i=>(E.1.drop (32*i.val)).take 32)=rv at Gr Gj Ml;generalize pre.length=m at f0 Gj Gd;generalize off+32*xi.val=q at Mk;clear I aK aB ax hlen av ai r0 r1 r2 r3 z q0 hq
  gi_wp2
  refine Y7 (k:=57) 6 [fI (.pointer (some ⟨gs,3,none⟩)),
   fI (.slice L m c3),
   fI (.slice (some ⟨bk,q,none⟩) 32 32),
   fI (.pointer (some ⟨bk,q,none⟩)),
   fI (.agg (x1.map bv).toArray),
   je (x1.map bv) 1 32] Wr Wr (fun⟨_,_,h⟩=>h) rfl Wr (fun x=>qB) ?_ ?_
  ·refine⟨?_,?_,?_,?_,?_,?_,trivial⟩ <;> intro x w2 Z b hd;·exact zi
   ·have d0:x 0=_:=hd 0 Wr;have y0:=Z.cell f0 Wz;exact zi
   ·exact zi
   ·have d2:x 2=_:=hd 2 Wr;have d2:x 2=_:=hd 2 Wr;go_wp2_with fail;rename_i hK;exact hK _ _ ⟨rfl,_,by simp only [Xd,Nat.reduceAdd,d2],rfl,Wd⟩
   ·have d3:x 3=_:=hd 3 Wr;have d3:x 3=_:=hd 3 Wr;change wpList _ _ _ [_] _ _;refine yy Wk _ rfl (g:=bk) (of:=q) (fun j v hv=>Z.cell (Mk.o j v hv) Wz) Jr.o d3 ?_;exact⟨rfl,_,rfl,rfl,Wd⟩
   ·have d4:x 4=_:=hd 4 Wr;have d4:x 4=_:=hd 4 Wr;change wpList _ _ _ [_] _ _;refine ki underlying78 ja J8 Wo Wo Wk _ rfl (cs:=x1.map bv) (by simp [Jr.o]) d4 ?_;exact⟨rfl,_,rfl,⟨w2.heap.size,rfl,XA,Wz,yE w2 (x1.map bv) 32 1 _ _ rfl (by simp [Jr.o]) Wo⟩,Wd.alloc _⟩
  ·intro x bz Z b0 hd aH;have d1:x 1=_:=hd 1 Wo;obtain⟨g9,d5,-,-,aR⟩:=hd 5 Wo;have Yo:=qI aR;have Gx:=qI (Gr.o.k0 Z);have Jn:=qI Z;clear hd aH Z aR;change wpList _ _ _ [_,_,_] _ _;go_wp2_with (at_builtin;refine zz ty32 (v:=.slice L m c3) (n:=m) (xs:=rv.flatten.map bv) (by have Q:=Gx.o.row;rw [Gj.o] at Q;exact Q) Yo.o (qr _) (by have:=Gd.o;simp only [maxLen];omega) (XC Gd.o) Gx.o.kept.size rfl _ _ rfl d1 d5 ?_;intro v6 ba ae ab _ ah;obtain⟨a8,c8,rfl,-,-⟩:=(Slc.of_row ae).form;have Mm:=qI ab;obtain⟨u0,uf,ho18⟩:=Gx.o.push (x:=x1) (a5:=a8) (c5:=c8) (by rw [Gj.o];exact ae) (by rw [Gj.o];exact ab);rw [Gj.o] at u0 ho18;rw [← Ml.o] at ho18;have Mn:=qI ho18;clear ae ab ah ho18);have O:zb (gs::(Value.slice L m c3).ownBlock.toList) W (ba.setCell ⟨gs,3,none⟩ (.slice a8 (m+1) c8)):=
    (((Jn.o.mono Wz).trans' (Mm.o.mono (fun k h=>Xj _ h)))).setCell (.inl Wz) _
   have aX:∀ k,k∈gs::(Value.slice L m c3).ownBlock.toList→∃ c t f,W.heap[k]? = some (.cells c t f):=fun k hk=>by
    rcases XY.1 hk with rfl | hk;·exact⟨_,_,_,Gr.o.box⟩
    ·exact ZA Gr.o.row (by rw [Gj.o];exact XD hk)
   have a9:∀ k d t e,W.heap[k]? = some (.cells d t e)→t≠49→k≠gs→k ∉ gs::(Value.slice L m c3).ownBlock.toList:=fun k d t e C h2 h3 hk=>by
    rcases XY.1 hk with hk | hk;·exact h3 hk
    ·have h4:=yw Gr.o.row (by rw [Gj.o];exact XD hk);rw [zQ C] at h4;exact h2 (Nat.add_right_cancel h4)
   have h8:=a9 _ _ _ _ Mi.o Wo (XC Ja.o);have Q:=a9 _ _ _ _ Mj.o Wo (XC Ja.o);exact⟨KeepsFrom.of_kept O aX,⟨O.block _ (lt_of_block Mi.o) h8,O.block _ (lt_of_block Mj.o) Q⟩,⟨⟨a8,c8,Mn.o⟩,⟨_,_,O.heap Mi.o h8⟩,⟨_,_,O.heap Mj.o Q⟩⟩⟩
 case done=>
  rintro D xs W hD rfl ⟨⟨L,c3,I⟩,-,-⟩ hK;rw [cut_all] at I;have aC:(QT 32 s E.1).length=s:=zbh _ _ _;have Gr:=qI I;have Js:Hid (y.heap.size+2≤D):=qI (XC ag.o);have aj:zb6 W gs u.1 (.slice none 0 0) (.slice none 0 0) (.slice L s c3):=by have Q:=I.box;rw [aC] at Q;exact Q
  have Yp:=qI aj;have Yq:=qI (I.kept.heap Gq.o (by have:=Gd.o;have:=HP.o;simp;omega));have Yb:=qI hK;have Yr:Hid (zm W (.slice a6 n2 c6) R2.1):=qI (by
   have C:∀ g,yt (.slice a6 n2 c6)=some g→g≠p∧g≠gs:=fun g J=>by have h2:=Yi.o g J;have h3:=Gu.o;have h4:=Gd.o;omega
   have h5:=Yh.o;unfold zm at h5 ⊢;rw [Gy.o] at h5 ⊢;exact (h5.kept Md.o (fun g J=>by simpa using (C g J).1)).kept I.kept (fun g J=>by simpa using (C g J).2))
  have CL:=qI (Mg.o W Yr.o);clear I aj hK r0 r1 r2 r3 z q0 hq
  gi_wp2
  go_upto_region 13 with (go_at_call 110;refine CL.o.mono ?_;rintro e Y ⟨⟨U,c1,a2,c2,rfl,aS,a4,aD,aF⟩,af⟩;have Gk:=qI aS;have Ys:=qI a4;have Yt:=qI aD;have Yu:=qI aF;have Gl:=qI af;have R:=af.heap Yp.o Wz;have g1:=za (o:=1) R rfl;have g2:=za (o:=2) R rfl;have gz:∀ j,Y.frozen? ⟨gs,j,none⟩=false:=fun j=>zh R;have Mo:=qI R;clear aS a4 aD aF af R);have Jb:Hid (zb [gs] Y ((Y.setCell ⟨gs,1,none⟩ (.slice U r c1)).setCell ⟨gs,2,none⟩ (.slice a2 r c2))):=qI (((zb.refl [gs] Y).setCell (.inl Wz) _).setCell (.inl Wz) _);have Jo:Hid (zb6 ((Y.setCell ⟨gs,1,none⟩ (.slice U r c1)).setCell ⟨gs,2,none⟩ (.slice a2 r c2)) gs u.1 (.slice U r c1) (.slice a2 r c2) (.slice L s c3)):=qI (by
   have C:=ze (i:=1) (v:=.slice U r c1) (d:=#[.int .i64 u.1,.slice U r c1,.slice none 0 0,.slice L s c3]) Mo.o rfl;exact ze (i:=2) (v:=.slice a2 r c2) (d:=#[.int .i64 u.1,.slice U r c1,.slice a2 r c2,.slice L s c3]) C rfl)
  clear g1 g2 gz;generalize (Y.setCell ⟨gs,1,none⟩ (.slice U r c1)).setCell ⟨gs,2,none⟩ (.slice a2 r c2)=WG at Jb Jo;have Jc:=qI (Jb.o.heap (Gl.o.heap Yq.o Wz) (by have:=Gd.o;have:=HP.o;simp;omega));have g0:=za (o:=0) Jo.o rfl;have g1:=za (o:=1) Jo.o rfl;have g2:=za (o:=2) Jo.o rfl;have g3:=za (o:=3) Jo.o rfl;have r0:=za (o:=0) Jc.o rfl;have r1:=za (o:=1) Jc.o rfl;have r2:=za (o:=2) Jc.o rfl;have r3:=za (o:=3) Jc.o rfl;have rz:∀ j,WG.frozen? ⟨w.heap.size+1,j,none⟩=false:=fun j=>zh Jc.o;go_wp2_with fail;change bodyPostM _ _ _ _ _ _ _ (QY WG (w.heap.size+1) u.1 (.slice U r c1) (.slice a2 r c2) (.slice L s c3));have O:=vX WG (w.heap.size+1) u.1 (.slice U r c1) (.slice a2 r c2) (.slice L s c3);have M:=QN Jc.o u.1 (.slice U r c1) (.slice a2 r c2) (.slice L s c3);have az:(QY WG (w.heap.size+1) u.1 (.slice U r c1) (.slice a2 r c2) (.slice L s c3)).heap[D]? = some (.deferred (some [])):=O.heap (Jb.o.heap (Gl.o.heap Yb.o Wz) (by have:=Js.o;have:=Ja.o;simp;omega)) (by have:=Js.o;have:=Ja.o;have:=Gd.o;have:=HP.o;simp;omega);generalize QY WG (w.heap.size+1) u.1 (.slice U r c1) (.slice a2 r c2) (.slice L s c3)=WF at O M az;have Jp:zb [D] WF (WF.putObj D (.deferred none)):=Wd.grown (grownBy_putObj' WF D (.deferred none)) (fun k e=>by cases e;exact .inl Wz);refine⟨Wz,.inl ⟨_,_,rfl,run_takeDeferred az,?_⟩⟩;have Jq:=Jp.heap M (by have:=Js.o;have:=Ja.o;have:=Gd.o;have:=HP.o;simp;omega);generalize WF.putObj D (.deferred none)=WZ at Jp Jq;have y0:=za (o:=0) Jq rfl;have y1:=za (o:=1) Jq rfl;have y2:=za (o:=2) Jq rfl;have y3:=za (o:=3) Jq rfl;have aO:W.heap[D]? = some (.deferred (some [])):=Yb.o;have bn:w.heap.size+2≤gs∧gs<y.heap.size∧y.heap.size+2≤D:=⟨by have:=Gd.o;have:=HP.o;omega,Ja.o,Js.o⟩;have ak:∀ {v:Value}{xs:List Value},Slc Y 32 v r xs→(∀ g,yt v=some g→W.heap.size≤g)→Slc WZ 32 v r xs:=fun {v xs} h h2=>by have b4:=lt_of_block aO;exact ((h.kept Jb.o (fun g J hx=>by have:=h2 g J;simp at hx;omega)).kept O (fun g J hx=>by have:=h2 g J;simp at hx;omega)).kept Jp (fun g J hx=>by have:=h2 g J;simp at hx;omega)
  have P:=Gr.o.row;rw [aC] at P;have aQ:Slc WZ 32 (.slice L s c3) s ((QT 32 s E.1).flatten.map bv):=by
   have ad:∀ g,yt (.slice L s c3)=some g→y.heap.size≤g∧g≠D:=fun g J=>by have C:=yL J;refine⟨(P.lt g C).1,fun e=>?_⟩;obtain⟨cc,tt,ff,h2⟩:=ZA P C;rw [e,aO] at h2;cases h2
   exact ((((Slc.of_row P).k0 Gl.o).kept Jb.o (fun g J hx=>by have:=(ad g J).1;simp at hx;omega)).kept O (fun g J hx=>by have:=(ad g J).1;simp at hx;omega)).kept Jp (fun g J hx=>by have:=(ad g J).2;simp at hx;omega)
  have aG:yl k=true∧bO k.bits.toNat k.height.toNat l=true:=by refine⟨Ju.o,?_⟩;rw [Gz.o.1,Gz.o.2];unfold bO;rw [XR,Xa,Xa,← HV.o.1];exact⟨Mh.o,Yl.o⟩
  have aA:kH r s l=⟨u.1,Kx r R2.1,QT 32 s E.1⟩:=by unfold kH;rw [HV.o.1,HV.o.2.1,HV.o.2.2]
  refine⟨.tuple #[.agg #[.int .i64 u.1,.slice U r c1,.slice a2 r c2,.slice L s c3],.int .i64 0],by simp [results,results59,go_sem,y0,y1,y2,y3],?_,?_⟩;·unfold J6;rw [XK aG,Gz.o.1,Gz.o.2,aA];exact⟨U,c1,a2,c2,L,c3,rfl,ak Gk.o Yt.o,ak Ys.o Yu.o,aQ⟩
  ·have C:zb [] w W:=Gw.o.trans Gr.o.kept (by intro i H;simp at H;subst H;exact .inr Ws);exact (((C.then Gl.o).trans Jb.o (by intro i H;simp at H;subst H;exact .inr Ws)).trans O (by intro i H;simp at H;subst H;exact .inr Ws)).trans Jp (by intro i H;simp at H;subst H;exact .inr Ws)
 case stop=>rintro D c' pre W _ _ h _;exact h.elim
attribute [local go_sem] Oper.semAt_some
theorem key_root {g:Nat}{k:yY}(h:yS w g k):w.rangeAt g 2 (k.root.map bv):=fun j v hv=>by
 refine za h ?_;rw [yV,uB,bf,show 2+j=j+1+1 by omega,uK,uK];exact hv
theorem yr.ofs {g:Nat}(h:yr w g l):w.rangeAt g 0 (l.map bv):=h.range
theorem sigVerify_any (k:yY)(aa:YR k.bits)(hr:k.root.length=32)(p:yl k=true){am:Option Addr}{cm:Nat}{m:List UInt8}(U:zm w (.slice am m.length cm) m)(hm:m.length≤1048576)(s:SigS)(O:s.leaf≤1073741824){j d:Nat}(B:k.bits=j)(E:k.height=d)(P:s.one.rev.length=j)(M:s.one.oth.length=j)(F:s.way.length=d)(ag:yU s.one.rev)(N:yU s.one.oth)(W:yU s.way){Q a2 G:Option Addr}{c1 c2 c3:Nat}(af:Slc w 32 (.slice Q j c1) j (s.one.rev.flatten.map bv))(ae:Slc w 32 (.slice a2 j c2) j (s.one.oth.flatten.map bv))(R:Slc w 32 (.slice G d c3) d (s.way.flatten.map bv))(ad:kg w) : zG w 60 #[.agg (yV k),.slice am m.length cm,.agg #[.int .i64 s.leaf,.slice Q j c1,.slice a2 j c2,.slice G d c3]] (.bool (verS k.root m s)):=by
 obtain⟨z,Ge⟩:=XE ((w.alloc (.cells (yV k) 51)).alloc (.cells #[.int .i64 s.leaf,.slice Q j c1,.slice a2 j c2,.slice G d c3] 87));have H:Hid (zb [] w z):=qI (kA2 Ge.o);have HA:Hid (yS z w.heap.size k):=qI (by rw [Ge.o];exact ((zb.refl [] _).alloc _).heap (zd rfl) Wz);have I:Hid (zb6 z (w.heap.size+1) s.leaf (.slice Q j c1) (.slice a2 j c2) (.slice G d c3)):=qI (by rw [Ge.o];exact zd Wz);have C:xw j=true∧d≤6:=by unfold yl at p;rw [B,E] at p;simp only [XR,Xa] at p;exact⟨p.1,Ws⟩
 have CM:=qI (bV k aa z);rw [p] at CM;have Yc:=qI (ad.k0 H.o);have CI:Hid (xz z 111 #[.slice am m.length cm,.agg #[.slice Q j c1,.slice a2 j c2]] (.tuple #[.agg ((jB m s.one).map bv).toArray,.int .i64 0])):=
  qI (fun w2 v=>zbT ((U.k0 H.o).k0 v) hm P M ag N ((af.k0 H.o).k0 v) ((ae.k0 H.o).k0 v) C.1 (Yc.o.k0 v))
 have K:Hid (∀ w2,zb [] z w2→Calls prog 112 #[.agg ((jB m s.one).map bv).toArray,.int .i64 s.leaf,.slice G d c3] w2 fun e w'=>((s.leaf<2 ^ d∧e = .returned (.tuple #[.agg ((vd (jB m s.one) s.leaf s.way).map bv).toArray,.int .i64 0]))∨(¬ s.leaf<2 ^ d∧e = .returned (.tuple #[.agg z32,.int .i64 1])))∧zb [] w2 w'):=
  qI (fun w2 v=>climb_any (QL _ _) s.leaf O W F C.2 ((R.k0 H.o).k0 v) (Yc.o.k0 v))
 have Jt:Hid ((jB m s.one).length=32):=qI (QL _ _);have Mp:Hid ((vd (jB m s.one) s.leaf s.way).length=32):=qI (zbu _ _ _ (QL _ _));have HV:Hid (verS k.root m s=(decide (s.leaf<2 ^ d)&&decide (vd (jB m s.one) s.leaf s.way=k.root))):=qI (by unfold verS;rw [F]);have Jd:=qI hr;have Je:=qI (And.intro B E);clear aa hr p U hm O P M F ag N W af ae R ad C B E;generalize vd (jB m s.one) s.leaf s.way=cl at K Mp HV;generalize jB m s.one=il at CI K Jt;generalize m.length=mn at CI;generalize aj:s.leaf=lf at Ge I K HV ⊢;clear aj;have D:=HA.o.c0;have J:=HA.o.c1;rw [Je.o.1] at D;rw [Je.o.2] at J;have s0:=za (o:=0) I.o rfl;have s1:=za (o:=1) I.o rfl;have s2:=za (o:=2) I.o rfl;have s3:=za (o:=3) I.o rfl;go_enter func60,ntmps60;go_upto_region 1 with fail;refine yZ Ge.o ?_;go_upto_region 3 with first
  | (refine yN Wk (.tmp 3) Wk HA.o Jd.o Wk ?_)
  | (go_at_call 44;refine CM.o.mono ?_;rintro e w2 ⟨rfl,f⟩;obtain⟨y0,y1,z0,z1,z2,z3⟩:=VO f D J s0 s1 s2 s3;have Gm:=qI f;clear f D J s0 s1 s2 s3)
 go_upto_region 6 with first
  | (refine zH Wk (.tmp 7) (.tmp 35) Wk (g:=w3.heap.size) (l0:=ku zX 0) (zd rfl) (yp _ _) Jt.o Wk Wk ?_;intro w4 h4 Z;have Yd:=qI h4;have Jy:Hid (zb [] w3 w4):=qI (((zb.refl [] w3).alloc _).trans Z (by intro i A;simp at A;subst A;exact .inr (XA)));clear h4 Z;simp only [Act.put])
  | (go_at_call 111;refine (CI.o _ Gm.o).mono ?_;rintro e w3 ⟨rfl,ab⟩;have Jx:=qI (Gm.o.then ab);clear ab)
 have L:Hid (zb [] z w4):=qI (Jx.o.then Jy.o);have CD:=K.o _ L.o;have e0:=L.o.cell (za (o:=0) I.o rfl) Wz;have e3:=L.o.cell (za (o:=3) I.o rfl) Wz;clear y0 y1 z0 z1 z2 z3;clear CM CI;by_cases q:lf<2 ^ d
 ·have Mq:Hid (decide (lf<2 ^ d)=true):=qI (XT q);have CG:Hid (zG w4 112 #[.agg (il.map bv).toArray,.int .i64 lf,.slice G d c3] (.tuple #[.agg (cl.map bv).toArray,.int .i64 0])):=qI (CD.mono (fun e w' h=>⟨h.1.elim (fun h=>h.2) (fun h=>absurd q h.1),h.2⟩));clear CD q K;go_upto_region 7 with first
   | (refine xa Wk (.tmp 7) Wk Yd.o Jt.o Wk ?_)
   | (refine zH Wk (.tmp 9) (.tmp 46) Wk (g:=w5.heap.size) (l0:=ku zX 0) (zd rfl) (yp _ _) Mp.o Wk Wk ?_;intro w6 h6 u;have Yv:=qI h6;have Gp:Hid (zb [] w5 w6):=qI (((zb.refl [] w5).alloc _).trans u (by intro i A;simp at A;subst A;exact .inr (XA)));clear h6 u;simp only [Act.put])
   | (go_at_call 112;refine CG.o.mono ?_;rintro e w5 ⟨rfl,r⟩;have X:=qI (L.o.then r);clear r)
  have Y:Hid (zb [] z w6):=qI (X.o.then Gp.o);have CS:Hid (xz w6 113 #[.slice (some ⟨w5.heap.size,0,none⟩) 32 32,.slice (some ⟨w.heap.size,2,none⟩) 32 32] (.bool (decide (cl=k.root)))):=
   qI (fun w7 v=>octSame_any Mp.o Jd.o ((Yv.o.k0 v).ofs) (key_root ((HA.o.k0 Y.o).k0 v)))
  generalize decide (cl=k.root)=res at CS HV;have Yx:=qI (HA.o.k0 Y.o).c0;clear e0 e3;go_wp2
  refine yG (n:=56) 8 [fI (.int .i64 0),
   fT,
   fT,
   fI (.slice (some ⟨w5.heap.size,0,none⟩) 32 32),
   fI (.pointer (some ⟨w.heap.size,2,none⟩)),
   fI (.slice (some ⟨w.heap.size,2,none⟩) 32 32),
   fI (.bool res),
   fI (.bool res)] Wr rfl Wr (fun x=>qB) ?_ ?_
  ·refine⟨?_,?_,?_,?_,?_,?_,?_,?_,trivial⟩ <;> intro x w2 a b hd;·exact zi
   ·have d0:x 0=_:=hd 0 Wr;exact zi
   ·have d1:x 1=_:=hd 1 Wr;exact zi
   ·have y:x 2=_:=hd 2 Wr;exact zi
   ·have y:x 2=_:=hd 2 Wr;exact zi
   ·have y:x 2=_:=hd 2 Wr;have d4:x 4=_:=hd 4 Wr;exact zi
   ·have y:x 2=_:=hd 2 Wr;have d3:x 3=_:=hd 3 Wr;have d5:x 5=_:=hd 5 Wr;have y:x 2=_:=hd 2 Wr;have d3:x 3=_:=hd 3 Wr;have d5:x 5=_:=hd 5 Wr;have CX:=CS.o _ a;go_wp2_with (go_at_call 113;refine CX.mh ?_;rintro e w5 rfl X);exact⟨rfl,X.o⟩
   ·have y:x 2=_:=hd 2 Wr;have d6:x 6=_:=hd 6 Wr;exact zi
  ·intro x ai a ah hd t;have d7:x 7=_:=hd 7 Wo;have Mr:=qI a;clear hd t a;change wpList _ _ _ [_] _ _;go_wp2;go_ret;exact⟨by rw [HV.o,Mq.o];exact congrArg Ending.returned d7,H.o.then (Y.o.then Mr.o)⟩
 ·have Mq:Hid (decide (lf<2 ^ d)=false):=qI (XO q);have CG:Hid (zG w4 112 #[.agg (il.map bv).toArray,.int .i64 lf,.slice G d c3] (.tuple #[.agg z32,.int .i64 1])):=qI (CD.mono (fun e w' h=>⟨h.1.elim (fun h=>absurd h.1 q) (fun h=>h.2),h.2⟩));clear CD q K;go_upto_region 7 with first
   | (refine xa Wk (.tmp 7) Wk Yd.o Jt.o Wk ?_)
   | (refine zH Wk (.tmp 9) (.tmp 46) Wk (g:=w5.heap.size) (l:=List.replicate 32 0) (l0:=ku zX 0) (zd rfl) (yp _ _) Wk Wk Wk ?_;intro w6 h6 u;have Gp:Hid (zb [] w5 w6):=qI (((zb.refl [] w5).alloc _).trans u (by intro i A;simp at A;subst A;exact .inr (XA)));clear h6 u;simp only [Act.put])
   | (go_at_call 112;refine CG.o.mono ?_;rintro e w5 ⟨rfl,r⟩;have X:=qI (L.o.then r);clear r)
  have Y:Hid (zb [] z w6):=qI (X.o.then Gp.o);clear e0 e3;go_wp2
  refine yG (n:=56) 8 [fI (.int .i64 1),
   fF,
   fF,
   fU,
   fU,
   fU,
   fU,
   fF] Wr rfl Wr (fun x=>qB) ?_ ?_
  ·refine⟨?_,?_,?_,?_,?_,?_,?_,?_,trivial⟩ <;> intro x w2 a b hd;·exact zi
   ·have d0:x 0=_:=hd 0 Wr;exact zi
   ·have d1:x 1=_:=hd 1 Wr;exact zi
   ·have y:x 2=_:=hd 2 Wr;exact zi
   ·have y:x 2=_:=hd 2 Wr;exact zi
   ·have y:x 2=_:=hd 2 Wr;have d4:x 4=_:=hd 4 Wr;exact zi
   ·have y:x 2=_:=hd 2 Wr;have d3:x 3=_:=hd 3 Wr;have d5:x 5=_:=hd 5 Wr;exact zi
   ·have y:x 2=_:=hd 2 Wr;have d6:x 6=_:=hd 6 Wr;exact zi
  ·intro x ai a ah hd t;have d7:x 7=_:=hd 7 Wo;have Mr:=qI a;clear hd t a;change wpList _ _ _ [_] _ _;go_wp2;go_ret;exact⟨by rw [HV.o,Mq.o];exact congrArg Ending.returned d7,H.o.then (Y.o.then Mr.o)⟩
end Go.Proofs.YtjccecajigmfkaaGreatDoor

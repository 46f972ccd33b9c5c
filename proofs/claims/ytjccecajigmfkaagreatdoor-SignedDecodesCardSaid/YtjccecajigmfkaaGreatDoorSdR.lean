/- Parts of one proof, merged: XIC XID XIE XIF XIG XIH XII XIJ. -/
import Derived.Test.YtjccecajigmfkaaGreatDoorSdQ
import Derived.Laws.Cover3
set_option linter.all false
set_option maxHeartbeats 12800000
set_option maxRecDepth 10000
namespace Go.Proofs.YtjccecajigmfkaaGreatDoor
open Go.Proofs.Tryz
open Go.RowKit
variable {Q:Exit→Act→World→Prop}{a:Act}{b h:Int}{k:yY}{op:Oper}{ops:Array Oper}{r:List UInt8}{rest:List Oper}{s:ByteArray}{w':World}
def jP (l:List UInt8):ByteArray:=zw (bL l)
def valV (k:yY):V 2:=(vD [(⟨#[98,105,116,115]⟩,(intV k.bits:VS (V 0))),(⟨#[104,101,105,103,104,116]⟩,intV k.height),(⟨#[112,117,98,108,105,99]⟩,kB (jP k.root))]:VS (V 1))
def Zp (k:yY):V 3:=(vD [(⟨#[107,101,121,116,121,112,101]⟩,(kB ⟨#[108,97,109,112,111,114,116,45,109,101,114,107,108,101]⟩:VS (V 1))),(⟨#[115,99,104,101,109,101]⟩,kB ⟨#[115,104,97,50,53,54]⟩),(⟨#[107,101,121,118,97,108]⟩,valV k)]:VS (V 2))
theorem j7 (l:List UInt8):(jP l).size=2*l.length:=by rw [jP,zZ,Zu]
theorem small_val (k:yY)(h:k.root.length=32):zP 2 (valV k):=by
 have e:=j7 k.root;have a:zW 2 (valV k)=0+(4+(6+(6+0)))+((0+0+0)+((0+0+0)+(((jP k.root).size+0+0)+0))):=rfl;exact⟨by show (4:Nat)≤20000;omega,by rw [a,e,h];omega⟩
theorem small_key (k:yY)(h:k.root.length=32):zP 3 (Zp k):=by
 have e:=(small_val k h).2;have a:zW 3 (Zp k)=0+(7+(6+(6+0)))+((14+0+0)+((6+0+0)+(zW 2 (valV k)+0))):=rfl;have d:zW 2 (valV k)=0+(4+(6+(6+0)))+((0+0+0)+((0+0+0)+(((jP k.root).size+0+0)+0))):=rfl;have b:=j7 k.root;exact⟨by show (7:Nat)≤20000;omega,by rw [a,d,b,h];omega⟩
def ZX (w w':World)(e:Ending)(k:yY):Prop:=if yl k=true then New 3 w w' e (Zp k) else e = .returned yX
theorem may_wf (h:yl k=true):YR k.bits∧YR k.height:=by
 unfold yl xw at h;simp only [XR,Xa] at h;exact⟨⟨Ws,Ws⟩,Ws,Ws⟩
def KZ (n:Nat)(v:V n):jd (zb []):=⟨fun u b w=>∃ k m s p i c q j d,u = .agg #[.int .i64 k,.int .i64 m,.string s,.slice p i c,.slice q j d]∧jH n (fun g=>b.1≤g∧g<b.2) w [.int .i64 k,.int .i64 m,.string s,.slice p i c,.slice q j d] v,fun _ _ _ _ ⟨k,m,s,p,i,c,q,j,d,h1,h2⟩ kk=>⟨k,m,s,p,i,c,q,j,d,h1,h2.k0 kk⟩⟩
theorem vE {n:Nat}{w:World}{e:Ending}{v:V n}(h:New n w w' e v):∃ k m s p i c q j d,e = .returned (.agg #[.int .i64 k,.int .i64 m,.string s,.slice p i c,.slice q j d])∧jH n (fun g=>w.heap.size≤g∧g<w'.heap.size) w' [.int .i64 k,.int .i64 m,.string s,.slice p i c,.slice q j d] v:=by
 obtain⟨cs,rfl,h⟩:=h;obtain⟨k,m,s,p,i,c,q,j,d,rfl⟩:=h.rep.conv;exact⟨k,m,s,p,i,c,q,j,d,rfl,h⟩
theorem keyValue_any (k:yY)(hb:YR k.bits)(hr:k.root.length=32)(w:World):Calls prog 97 #[.agg (yV k)] w fun e w'=>ZX w w' e k∧zb [] w w':=by
 obtain⟨N,Gc⟩:=XE ((w.alloc (.cells (yV k) 51)).alloc (.cells #[.int .i64 0,.int .i64 0,.string ⟨#[]⟩,.slice none 0 0,.slice none 0 0] 25));have Gd:Hid (zb [] w N):=qI (kA2 Gc.o);have HA:Hid (yS N w.heap.size k):=qI (by rw [Gc.o];exact ((zb.refl [] _).alloc _).heap (zd rfl) Wz);have Gg:Hid (N.heap[w.heap.size+1]? = some (.cells #[.int .i64 0,.int .i64 0,.string ⟨#[]⟩,.slice none 0 0,.slice none 0 0] 25 (0,0))):=qI (by rw [Gc.o];exact zd Wz);have Jv:Hid (w.heap.size≤N.heap.size):=qI Gd.o.size;have Jn:Hid (N.heap.size=w.heap.size+2):=qI (by rw [Gc.o];simp);have CM:=qI (bV k hb N);have H:=qI hr;clear hb hr;have Jo:Hid (∀ w2:World,zb [] N w2→Calls prog 52 #[.slice (some ⟨w.heap.size,2,none⟩) 32 32] w2 fun e w'=>e = .returned (.string (jP k.root))∧zb [] w2 w'):=qI (fun w2 L=>by
  have h1:=za4 (w:=w2) (l:=k.root) (by rw [H.o];exact (HA.o.root H.o).k0 L) (by rw [H.o];decide) (by intro e;have:=H.o;rw [e] at this;cases this);rw [H.o] at h1;exact h1)
 obtain⟨G,Jp⟩:=XE (jP k.root);rw [← Jp.o] at Jo;have Jw:Hid (yl k=true→YR k.bits∧YR k.height):=qI may_wf;by_cases hm:yl k=true;rotate_left
 ·have ai:yl k=false:=by simpa using hm
  rw [ai] at CM;have Gn:Hid (∀ w' e,ZX w w' e k=(e = .returned yX)):=qI (fun w' e=>by unfold ZX;rw [XJ hm]);clear hm ai;go_enter func97,ntmps97;go_upto_region 1 with fail;rw [← Gc.o];go_wp2_with first
   | (refine yN Wk (.tmp 1) Wk HA.o H.o Wk ?_)
   | (go_at_call 44;refine CM.o.mono ?_;rintro e w1 ⟨rfl,Q⟩;have F:=qI Q;have O:=qI (Q.heap Gg.o Wz);have r0:=za (o:=0) (v:=.int .i64 0) O.o rfl;have r1:=za (o:=1) (v:=.int .i64 0) O.o rfl;have r2:=za (o:=2) (v:=.string ⟨#[]⟩) O.o rfl;have r3:=za (o:=3) (v:=.slice none 0 0) O.o rfl;have r4:=za (o:=4) (v:=.slice none 0 0) O.o rfl;have z:∀ j,w1.frozen? ⟨w.heap.size+1,j,none⟩=false:=fun j=>zh O.o;clear Q)
  change bodyPost _ _ _ _ _ (xU w1 (w.heap.size+1) 0 0 ⟨#[]⟩ (.slice none 0 0) (.slice none 0 0));have I:=yv w1 (w.heap.size+1) 0 0 ⟨#[]⟩ (.slice none 0 0) (.slice none 0 0);have M:=xE O.o 0 0 ⟨#[]⟩ (.slice none 0 0) (.slice none 0 0);revert I M;generalize xU w1 (w.heap.size+1) 0 0 ⟨#[]⟩ (.slice none 0 0) (.slice none 0 0)=WF;intro I M;obtain⟨y0,y1,y2,y3,y4⟩:=yD M;exact bodyPost_ret (v:=yX) (by simp [results,results97,go_sem,y0,y1,y2,y3,y4,yX]) rfl ⟨by rw [Gn.o],((Gd.o.then F.o).trans I (by intro i E;simp at E;subst E;exact .inr Wz))⟩
 rw [hm] at CM;have Gn:Hid (∀ w' e,ZX w w' e k=New 3 w w' e (Zp k)):=qI (fun w' e=>by unfold ZX;rw [XK hm]);have Jq:=qI (Jw.o hm);clear hm;go_enter func97,ntmps97;go_upto_region 1 with fail;rw [← Gc.o];go_upto_region 3 with first
  | (refine yN Wk (.tmp 1) Wk HA.o H.o Wk ?_)
  | (go_at_call 44;refine CM.o.mh ?_;rintro e w1 rfl F)
 have Jx:Hid (w.heap.size≤w1.heap.size):=qI (X7 Jv.o F.o.size);have Jy:Hid (∀ (g:Nat) (w2:World),zb [] w1 w2→Slc w2 6 (.slice (some ⟨g,0,none⟩) 3 3) 3 [.string ⟨#[98,105,116,115]⟩,.int .i64 3,.int .i64 k.bits,.string ⟨#[]⟩,.slice none 0 0,.slice none 0 0,.string ⟨#[104,101,105,103,104,116]⟩,.int .i64 3,.int .i64 k.height,.string ⟨#[]⟩,.slice none 0 0,.slice none 0 0,.string ⟨#[112,117,98,108,105,99]⟩,.int .i64 4,.int .i64 0,.string G,.slice none 0 0,.slice none 0 0]→Calls prog 54 #[.slice (some ⟨g,0,none⟩) 3 3] w2 fun e w'=>New 2 w2 w' e (valV k)∧zb [] w2 w'):=qI (fun g w2 L R=>by
  refine ZO (n:=1) (S:=fun _=>True) (m:=(valV k).m) (mcs:=[(⟨#[98,105,116,115]⟩,[.int .i64 3,.int .i64 k.bits,.string ⟨#[]⟩,.slice none 0 0,.slice none 0 0]),(⟨#[104,101,105,103,104,116]⟩,[.int .i64 3,.int .i64 k.height,.string ⟨#[]⟩,.slice none 0 0,.slice none 0 0]),(⟨#[112,117,98,108,105,99]⟩,[.int .i64 4,.int .i64 0,.string G,.slice none 0 0,.slice none 0 0])]) R ?_ (small_val k H.o);exact zL.cons ⟨rfl,rep_int (n:=0) _ _ _ Jq.o.1⟩ (zL.cons ⟨rfl,rep_int (n:=0) _ _ _ Jq.o.2⟩ (zL.cons ⟨rfl,by rw [Jp.o];exact ZM (n:=0) _ _ _⟩ (zL.nil _))))
 refine yG (n:=31) 16 [fI (.pointer (some ⟨w.heap.size,0,none⟩)),
  fI (.int .i64 k.bits),
  fI (.agg #[.int .i64 3,.int .i64 k.bits,.string ⟨#[]⟩,.slice none 0 0,.slice none 0 0]),
  fI (.agg #[.string ⟨#[98,105,116,115]⟩,.int .i64 3,.int .i64 k.bits,.string ⟨#[]⟩,.slice none 0 0,.slice none 0 0]),
  fI (.pointer (some ⟨w.heap.size,1,none⟩)),
  fI (.int .i64 k.height),
  fI (.agg #[.int .i64 3,.int .i64 k.height,.string ⟨#[]⟩,.slice none 0 0,.slice none 0 0]),
  fI (.agg #[.string ⟨#[104,101,105,103,104,116]⟩,.int .i64 3,.int .i64 k.height,.string ⟨#[]⟩,.slice none 0 0,.slice none 0 0]),
  fI (.pointer (some ⟨w.heap.size,2,none⟩)),
  fI (.slice (some ⟨w.heap.size,2,none⟩) 32 32),
  fI (.string G),
  fI (.agg #[.int .i64 4,.int .i64 0,.string G,.slice none 0 0,.slice none 0 0]),
  fI (.agg #[.string ⟨#[112,117,98,108,105,99]⟩,.int .i64 4,.int .i64 0,.string G,.slice none 0 0,.slice none 0 0]),
  je [.string ⟨#[98,105,116,115]⟩,.int .i64 3,.int .i64 k.bits,.string ⟨#[]⟩,.slice none 0 0,.slice none 0 0,.string ⟨#[104,101,105,103,104,116]⟩,.int .i64 3,.int .i64 k.height,.string ⟨#[]⟩,.slice none 0 0,.slice none 0 0,.string ⟨#[112,117,98,108,105,99]⟩,.int .i64 4,.int .i64 0,.string G,.slice none 0 0,.slice none 0 0] 3 6,
  KZ 2 (valV k),
  boxFact 25] Wr rfl Wr (fun x=>qB) ?_ ?_
 ·refine⟨?_,?_,?_,?_,?_,?_,?_,?_,?_,?_,?_,?_,?_,?_,?_,?_,trivial⟩ <;> intro x w2 a b hd;·exact zi
  ·have KA:=HA.o.k0 (F.o.then a);have y0:=KA.c0;have d0:x 0=_:=hd 0 Wr;exact zi
  ·have d1:x 1=_:=hd 1 Wr;have d:=zbQ k.bits w2;go_wp2_with (go_at_call 143;refine d.mh ?_;rintro e r rfl f);exact⟨rfl,f.o⟩
  ·have d2:x 2=_:=hd 2 Wr;have d:=Zn ⟨#[98,105,116,115]⟩ 3 k.bits ⟨#[]⟩ none 0 0 none 0 0 w2;go_wp2_with (go_at_call 142;refine d.mh ?_;rintro e r rfl f);exact⟨rfl,f.o⟩
  ·exact zi
  ·have KA:=HA.o.k0 (F.o.then a);have y1:=KA.c1;have d4:x 4=_:=hd 4 Wr;exact zi
  ·have d5:x 5=_:=hd 5 Wr;have d:=zbQ k.height w2;go_wp2_with (go_at_call 143;refine d.mh ?_;rintro e r rfl f);exact⟨rfl,f.o⟩
  ·have d6:x 6=_:=hd 6 Wr;have d:=Zn ⟨#[104,101,105,103,104,116]⟩ 3 k.height ⟨#[]⟩ none 0 0 none 0 0 w2;go_wp2_with (go_at_call 142;refine d.mh ?_;rintro e r rfl f);exact⟨rfl,f.o⟩
  ·exact zi
  ·have d8:x 8=_:=hd 8 Wr;exact zi
  ·have d9:x 9=_:=hd 9 Wr;have d:=Jo.o w2 (F.o.then a);go_wp2_with (go_at_call 52;refine d.mh ?_;rintro e r rfl f);exact⟨rfl,f.o⟩
  ·have aq:x 10=_:=hd 10 Wr;have d:=vq G w2;go_wp2_with (go_at_call 55;refine d.mh ?_;rintro e r rfl f);exact⟨rfl,f.o⟩
  ·have ap:x 11=_:=hd 11 Wr;have d:=Zn ⟨#[112,117,98,108,105,99]⟩ 4 0 G none 0 0 none 0 0 w2;go_wp2_with (go_at_call 142;refine d.mh ?_;rintro e r rfl f);exact⟨rfl,f.o⟩
  ·have d3:x 3=_:=hd 3 Wr;have d7:x 7=_:=hd 7 Wr;have ar:x 12=_:=hd 12 Wr;go_wp2;exact⟨⟨_,rfl,XA,Wz,yE w2 [.string ⟨#[98,105,116,115]⟩,.int .i64 3,.int .i64 k.bits,.string ⟨#[]⟩,.slice none 0 0,.slice none 0 0,.string ⟨#[104,101,105,103,104,116]⟩,.int .i64 3,.int .i64 k.height,.string ⟨#[]⟩,.slice none 0 0,.slice none 0 0,.string ⟨#[112,117,98,108,105,99]⟩,.int .i64 4,.int .i64 0,.string G,.slice none 0 0,.slice none 0 0] 6 3 _ _ rfl rfl Wo⟩,Wd.alloc _⟩
  ·obtain⟨gx,ag,-,-,K⟩:=hd 13 Wr;have d:=Jy.o gx w2 a K;clear K;go_wp2_with (go_at_call 54;refine d.mono ?_;rintro e r ⟨C,D⟩;obtain⟨u,m3,y,p3,t,c3,A,s,B,rfl,ho3⟩:=vE C;have Gp:=qI ho3;have f:=qI D;have Gt:=qI (a.size);clear D ho3 C);exact⟨⟨_,_,_,_,_,_,_,_,_,rfl,Gp.o⟩,f.o⟩
  ·have Gt:=qI (a.size);go_wp2;exact⟨⟨_,XA,Wz,rfl,zd rfl⟩,Wd.alloc _⟩
 ·intro x w2 a b hd q;obtain⟨g,aj,ak,ad,p⟩:=hd 15 Wo;obtain⟨u,m3,y,p3,t,c3,A,s,B,al,J⟩:=hd 14 Wo;have ag:=(hd 13 Wo);have am:=q.2 14 15 Wo Wo Wo;have ah:=q.1 15 Wo;have af:=q.1 14 Wo;have HO:=qI J;have HB:=qI p;have HG:Hid (w.heap.size+2≤g):=qI (XH Jn.o F.o.size);have Jz:Hid (∀ g',(b 14).1≤g'∧g'<(b 14).2→g'≠g∧w1.heap.size≤g'∧g'<w2.heap.size):=qI (fun g' h=>⟨Ws,Ws,Ws⟩);have Jf:=qI a;have r0:=za (o:=0) (v:=.int .i64 0) p rfl;have r1:=za (o:=1) (v:=.int .i64 0) p rfl;have r2:=za (o:=2) (v:=.string ⟨#[]⟩) p rfl;have r3:=za (o:=3) (v:=.slice none 0 0) p rfl;have r4:=za (o:=4) (v:=.slice none 0 0) p rfl;have z:∀ j,w2.frozen? ⟨g,j,none⟩=false:=fun j=>zh p
  clear hd q am ah af a J p ag aj ak;change wpList _ _ _ [_] _ _;go_upto_region 4 with fail;change Code.wp _ _ _ _ (xU w2 g u m3 y (.slice p3 t c3) (.slice A s B));have Gi:Hid (zb [g] w2 (xU w2 g u m3 y (.slice p3 t c3) (.slice A s B))):=qI (yv _ _ _ _ _ _ _);have Gy:=qI (xE HB.o u m3 y (.slice p3 t c3) (.slice A s B));have Gl:Hid (zb [] w (xU w2 g u m3 y (.slice p3 t c3) (.slice A s B))):=qI (((Gd.o.then F.o).then Jf.o).trans Gi.o (by intro i E;simp at E;subst E;exact .inr (XC HG.o)));have Jg:=qI (Gi.o.heap (Jf.o.heap (F.o.heap Gg.o Wz) Wz) (by have:=HG.o;simp;omega));have Jh:=qI (HO.o.kept Gi.o (fun i E hS=>by simp at E;subst E;exact (Jz.o _ hS).1 rfl));rw [ad];clear r0 r1 r2 r3 r4 z al ad;revert Gi Gy Gl Jg Jh;generalize xU w2 g u m3 y (.slice p3 t c3) (.slice A s B)=w4;intro Gi Gy Gl Jg Jh;have Ma:Hid (∀ (g:Nat) (w2:World),zb [] w4 w2→Slc w2 6 (.slice (some ⟨g,0,none⟩) 3 3) 3 [.string ⟨#[107,101,121,116,121,112,101]⟩,.int .i64 4,.int .i64 0,.string ⟨#[108,97,109,112,111,114,116,45,109,101,114,107,108,101]⟩,.slice none 0 0,.slice none 0 0,.string ⟨#[115,99,104,101,109,101]⟩,.int .i64 4,.int .i64 0,.string ⟨#[115,104,97,50,53,54]⟩,.slice none 0 0,.slice none 0 0,.string ⟨#[107,101,121,118,97,108]⟩,.int .i64 u,.int .i64 m3,.string y,.slice p3 t c3,.slice A s B]→Calls prog 54 #[.slice (some ⟨g,0,none⟩) 3 3] w2 fun e w'=>New 3 w2 w' e (Zp k)∧zb [] w2 w'):=qI (fun g w2 L R=>by
   refine ZO (n:=2) (S:=fun _=>True) (m:=(Zp k).m) (mcs:=[(⟨#[107,101,121,116,121,112,101]⟩,[.int .i64 4,.int .i64 0,.string ⟨#[108,97,109,112,111,114,116,45,109,101,114,107,108,101]⟩,.slice none 0 0,.slice none 0 0]),(⟨#[115,99,104,101,109,101]⟩,[.int .i64 4,.int .i64 0,.string ⟨#[115,104,97,50,53,54]⟩,.slice none 0 0,.slice none 0 0]),(⟨#[107,101,121,118,97,108]⟩,[.int .i64 u,.int .i64 m3,.string y,.slice p3 t c3,.slice A s B])]) R ?_ (small_key k H.o);exact zL.cons ⟨rfl,ZM (n:=1) _ _ _⟩ (zL.cons ⟨rfl,ZM (n:=1) _ _ _⟩ (zL.cons ⟨rfl,(Jh.o.rep.k0 L).mono (fun _ _ _=>trivial)⟩ (zL.nil _))))
  refine yG (n:=31) 8 [fI (.agg #[.int .i64 4,.int .i64 0,.string ⟨#[108,97,109,112,111,114,116,45,109,101,114,107,108,101]⟩,.slice none 0 0,.slice none 0 0]),
   fI (.agg #[.string ⟨#[107,101,121,116,121,112,101]⟩,.int .i64 4,.int .i64 0,.string ⟨#[108,97,109,112,111,114,116,45,109,101,114,107,108,101]⟩,.slice none 0 0,.slice none 0 0]),
   fI (.agg #[.int .i64 4,.int .i64 0,.string ⟨#[115,104,97,50,53,54]⟩,.slice none 0 0,.slice none 0 0]),
   fI (.agg #[.string ⟨#[115,99,104,101,109,101]⟩,.int .i64 4,.int .i64 0,.string ⟨#[115,104,97,50,53,54]⟩,.slice none 0 0,.slice none 0 0]),
   fI (.agg #[.int .i64 u,.int .i64 m3,.string y,.slice p3 t c3,.slice A s B]),
   fI (.agg #[.string ⟨#[107,101,121,118,97,108]⟩,.int .i64 u,.int .i64 m3,.string y,.slice p3 t c3,.slice A s B]),
   je [.string ⟨#[107,101,121,116,121,112,101]⟩,.int .i64 4,.int .i64 0,.string ⟨#[108,97,109,112,111,114,116,45,109,101,114,107,108,101]⟩,.slice none 0 0,.slice none 0 0,.string ⟨#[115,99,104,101,109,101]⟩,.int .i64 4,.int .i64 0,.string ⟨#[115,104,97,50,53,54]⟩,.slice none 0 0,.slice none 0 0,.string ⟨#[107,101,121,118,97,108]⟩,.int .i64 u,.int .i64 m3,.string y,.slice p3 t c3,.slice A s B] 3 6,
   KZ 3 (Zp k)] Wr rfl Wr (fun x=>qB) ?_ ?_
  ·refine⟨?_,?_,?_,?_,?_,?_,?_,?_,trivial⟩ <;> intro x w2 a b hd;·have d:=vq ⟨#[108,97,109,112,111,114,116,45,109,101,114,107,108,101]⟩ w2;go_wp2_with (go_at_call 55;refine d.mh ?_;rintro e r rfl f);exact⟨rfl,f.o⟩
   ·have d0:x 0=_:=hd 0 Wr;have d:=Zn ⟨#[107,101,121,116,121,112,101]⟩ 4 0 ⟨#[108,97,109,112,111,114,116,45,109,101,114,107,108,101]⟩ none 0 0 none 0 0 w2;go_wp2_with (go_at_call 142;refine d.mh ?_;rintro e r rfl f);exact⟨rfl,f.o⟩
   ·have d:=vq ⟨#[115,104,97,50,53,54]⟩ w2;go_wp2_with (go_at_call 55;refine d.mh ?_;rintro e r rfl f);exact⟨rfl,f.o⟩
   ·have d2:x 2=_:=hd 2 Wr;have d:=Zn ⟨#[115,99,104,101,109,101]⟩ 4 0 ⟨#[115,104,97,50,53,54]⟩ none 0 0 none 0 0 w2;go_wp2_with (go_at_call 142;refine d.mh ?_;rintro e r rfl f);exact⟨rfl,f.o⟩
   ·obtain⟨y0,y1,y2,y3,y4⟩:=yD (a.heap Gy.o Wz);exact zi
   ·have d4:x 4=_:=hd 4 Wr;have d:=Zn ⟨#[107,101,121,118,97,108]⟩ u m3 y p3 t c3 A s B w2;go_wp2_with (go_at_call 142;refine d.mh ?_;rintro e r rfl f);exact⟨rfl,f.o⟩
   ·have d1:x 1=_:=hd 1 Wr;have d3:x 3=_:=hd 3 Wr;have d5:x 5=_:=hd 5 Wr;go_wp2;exact⟨⟨_,rfl,XA,Wz,yE w2 [.string ⟨#[107,101,121,116,121,112,101]⟩,.int .i64 4,.int .i64 0,.string ⟨#[108,97,109,112,111,114,116,45,109,101,114,107,108,101]⟩,.slice none 0 0,.slice none 0 0,.string ⟨#[115,99,104,101,109,101]⟩,.int .i64 4,.int .i64 0,.string ⟨#[115,104,97,50,53,54]⟩,.slice none 0 0,.slice none 0 0,.string ⟨#[107,101,121,118,97,108]⟩,.int .i64 u,.int .i64 m3,.string y,.slice p3 t c3,.slice A s B] 6 3 _ _ rfl rfl Wo⟩,Wd.alloc _⟩
   ·obtain⟨gx,d6,-,-,ae⟩:=hd 6 Wr;have d:=Ma.o gx w2 a ae;clear ae;go_wp2_with (go_at_call 54;refine d.mono ?_;rintro e r ⟨C,D⟩;obtain⟨Z,m6,X,p6,U,c6,W,Y,e6,rfl,ho3⟩:=vE C;have Gp:=qI ho3;have f:=qI D;clear D ho3 C);exact⟨⟨_,_,_,_,_,_,_,_,_,rfl,Gp.o⟩,f.o⟩
  ·intro x w5 a b hd q;obtain⟨Z,m6,X,p6,U,c6,W,Y,e6,d7,ab⟩:=hd 7 Wo;have aa:=q.1 7 Wo;have Mb:=qI ab;have Ji:=qI a;have Mc:=qI aa;have P:=qI (a.heap Jg.o Wz);have r0:=za (o:=0) (v:=.int .i64 0) P.o rfl;have r1:=za (o:=1) (v:=.int .i64 0) P.o rfl;have r2:=za (o:=2) (v:=.string ⟨#[]⟩) P.o rfl;have r3:=za (o:=3) (v:=.slice none 0 0) P.o rfl;have r4:=za (o:=4) (v:=.slice none 0 0) P.o rfl;have z:∀ j,w5.frozen? ⟨w.heap.size+1,j,none⟩=false:=fun j=>zh P.o
   clear hd q aa a ab;change wpList _ _ _ [_] _ _;go_wp2_with fail;change bodyPost _ _ _ _ _ (xU w5 (w.heap.size+1) Z m6 X (.slice p6 U c6) (.slice W Y e6));have I:=yv w5 (w.heap.size+1) Z m6 X (.slice p6 U c6) (.slice W Y e6);have M:=xE P.o Z m6 X (.slice p6 U c6) (.slice W Y e6);revert I M;generalize xU w5 (w.heap.size+1) Z m6 X (.slice p6 U c6) (.slice W Y e6)=WF;intro I M;obtain⟨z0,z1,z2,z3,z4⟩:=yD M;refine bodyPost_ret (v:=.agg #[.int .i64 Z,.int .i64 m6,.string X,.slice p6 U c6,.slice W Y e6]) (by simp [results,results97,go_sem,z0,z1,z2,z3,z4]) rfl ⟨?_,(Gl.o.then Ji.o).trans I (by intro i E;simp at E;subst E;exact .inr Wz)⟩;rw [Gn.o];have ao:=Gl.o.size;have hw:=Mc.o;have au:=Jn.o;have an:w.heap.size+2≤w4.heap.size:=by have:=F.o.size;have:=Jf.o.size;have:=Gi.o.size;omega
   exact⟨_,rfl,(Mb.o.kept I (by intro k L;simp at L;subst L;omega)).mono (fun g ⟨h5,h6⟩=>⟨Ws,uT (uT h6 hw.2.2) I.size⟩)⟩
theorem qJ (h:∀ b,b∈s.data.toList→b.toNat<128):zv s=true:=by
 unfold zv;rw [Lib.validD_ascii s.data.toList.length _ (fun b a=>h b (List.mem_of_mem_take a)),uV];rfl
theorem hexd_low (n:Nat):yW (vO n)=true∨16≤n:=by
 rcases Xr n 16 with h | h;·refine .inl ?_;have:∀ m:Fin 16,yW (vO m.val)=true:=Wo;exact this ⟨n,h⟩
 ·exact .inr h
theorem low_128 {b:UInt8}(h:yW b=true):b.toNat<128:=by
 have:∀ c:Fin 256,yW (UInt8.ofNat c.val)=true→(UInt8.ofNat c.val).toNat<128:=by decide +kernel
 have h2:=this ⟨b.toNat,uk b⟩;simp only [uR] at h2;exact h2 h
theorem hexL_low (l:List UInt8):∀ b,b∈bL l→yW b=true:=by
 intro b a;obtain⟨c,-,hc⟩:=List.mem_flatMap.1 a;have d:=uk c;simp only [XY,Xi,uC] at hc;rcases hc with rfl | rfl;·exact (hexd_low _).resolve_right Ws
 ·exact (hexd_low _).resolve_right Ws
theorem hexS_list (l:List UInt8):(jP l).data.toList=bL l:=by rw [jP];exact zJ _
theorem hexS_ok (l:List UInt8):zv (jP l)=true:=qJ fun b a=>low_128 (hexL_low l b (by rwa [hexS_list] at a))
theorem pairs_hex:∀ (l:List UInt8),xl (bL l)=l
 | []=>rfl
 | c::l=>by
  have h:∀ n:Fin 256,UInt8.ofNat (hv (vO ((UInt8.ofNat n.val).toNat/16))*16+hv (vO ((UInt8.ofNat n.val).toNat%16)))=UInt8.ofNat n.val:=by decide +kernel
  have a:=h ⟨c.toNat,uk c⟩;simp only [uR] at a;have e:bL (c::l)=vO (c.toNat/16)::vO (c.toNat%16)::bL l:=rfl;rw [e,xl,pairs_hex l,a]
theorem unhex_hex (l:List UInt8):xn (jP l)=some l:=by
 unfold xn;have e:(jP l).data.toList=bL l:=by simp [jP,zw]
 rw [XK ⟨by rw [j7];omega,by rw [e];exact Xk.2 (hexL_low l)⟩,e,pairs_hex]
theorem lits_ok:zv ⟨#[98,105,116,115]⟩=true∧zv ⟨#[104,101,105,103,104,116]⟩=true∧zv ⟨#[112,117,98,108,105,99]⟩=true∧zv ⟨#[107,101,121,116,121,112,101]⟩=true∧zv ⟨#[115,99,104,101,109,101]⟩=true∧zv ⟨#[107,101,121,118,97,108]⟩=true∧zv ⟨#[108,97,109,112,111,114,116,45,109,101,114,107,108,101]⟩=true∧zv ⟨#[115,104,97,50,53,54]⟩=true:=by
 refine⟨?_,?_,?_,?_,?_,?_,?_,?_⟩;all_goals exact qJ Wo
theorem vW {n:Nat}(m:List (ByteArray×V n))(a:∀ p,p∈m→zv p.1=true)(h2:(m.map (fun p=>p.1)).Nodup)(h3:∀ p,p∈m→zn n p.2=true):zn (n+1) (vD m:VS (V n))=true:=by
 have e:zn (n+1) (vD m:VS (V n))=(zy (vD m)&&(vD m).kids.all (zn n)):=rfl;rw [e,XR];refine⟨?_,?_⟩;·have b:zy (vD m:VS (V n))=(xe m&&true&&true&&true):=rfl;rw [b,ub,ub,ub,xe,XT h2,ub,Xk];exact a
 ·rw [Xk];intro x d;obtain⟨p,hp,rfl⟩:=Xm.1 (by simpa [VS.kids,vD] using d:x∈m.map (fun p=>p.2));exact h3 p hp
theorem right_list {n:Nat}(l:List (V n))(h3:∀ p,p∈l→zn n p=true):zn (n+1) (jL l:VS (V n))=true:=by
 have e:zn (n+1) (jL l:VS (V n))=(zy (jL l)&&(jL l).kids.all (zn n)):=rfl;rw [e,XR];refine⟨rfl,?_⟩;rw [Xk];intro x a;exact h3 x (by simpa [VS.kids,jL] using a)
theorem j0 {n:Nat}(s:ByteArray)(h:zv s=true):zn (n+1) (kB s:VS (V n))=true:=by
 have e:zn (n+1) (kB s:VS (V n))=(zy (kB s:VS (V n))&&(kB s:VS (V n)).kids.all (zn n)):=rfl;rw [e,XR];have a:zy (kB s:VS (V n))=(zv s&&true&&true&&true):=rfl;exact⟨by rw [a,h];rfl,rfl⟩
theorem right_int {n:Nat}(z:Int)(d:-9007199254740991≤z)(b:z≤9007199254740991):zn (n+1) (intV z:VS (V n))=true:=by
 have e:zn (n+1) (intV z:VS (V n))=(zy (intV z:VS (V n))&&(intV z:VS (V n)).kids.all (zn n)):=rfl;rw [e,XR];have a:zy (intV z:VS (V n))=(decide (-9007199254740991≤z∧z≤9007199254740991)&&true&&true&&true):=rfl;exact⟨by rw [a,XT ⟨d,b⟩];rfl,rfl⟩
theorem key_check (k:yY)(h:yl k=true):zV 3 (Zp k)=0:=by
 unfold yl xw at h;simp only [XR,Xa] at h;obtain⟨a,j,l,f,b,d,i,e⟩:=lits_ok;rw [ql];refine⟨by show (3:Nat)≤12;omega,by show (7:Nat)≤4096;omega,?_⟩;refine vW (n:=2) _ (by simp [f,b,d]) (by simp only [Xf,X3];decide) ?_;intro p hp;simp only [XY,Xi,uC] at hp;rcases hp with rfl | rfl | rfl
 ·exact j0 (n:=1) _ i
 ·exact j0 (n:=1) _ e
 refine vW (n:=1) _ (by simp [a,j,l]) (by simp only [Xf,X3];decide) ?_;intro p hp;simp only [XY,Xi,uC] at hp;rcases hp with rfl | rfl | rfl
 ·exact right_int (n:=0) _ Ws Ws
 ·exact right_int (n:=0) _ Ws Ws
 ·exact j0 (n:=0) _ (hexS_ok _)
def qe (k:yY):ByteArray:=if yl k=true then jP (qj (xV 3 (Zp k)).1) else ⟨#[]⟩
theorem small_key_b (k:yY)(h:k.root.length=32):zW 3 (Zp k)≤200:=by
 have a:zW 3 (Zp k)=0+(7+(6+(6+0)))+((14+0+0)+((6+0+0)+(zW 2 (valV k)+0))):=rfl;have d:zW 2 (valV k)=0+(4+(6+(6+0)))+((0+0+0)+((0+0+0)+(((jP k.root).size+0+0)+0))):=rfl;have b:=j7 k.root;rw [a,d,b,h];omega
theorem key_enc (k:yY)(d:k.root.length=32)(h:yl k=true):(xV 3 (Zp k)).2=0∧(xV 3 (Zp k)).1.length≤262144:=by
 have hc:=key_check k h;have b:=QG 3 (zK 3 (Zp k)) (by rw [YC];exact (ql.1 hc).2.2);rw [Kq,Z4] at b;have f:=small_key_b k d;have e:zp 3 (Zp k)=7:=rfl;have a:(zr 3 (zK 3 (Zp k))).length≤262144:=Ws;rw [encV_fine hc a];exact⟨rfl,a⟩
def Qw {α:Type}:VS α:=⟨0,0,⟨#[]⟩,[],[]⟩
theorem K0 {n:Nat}(S:Nat→Prop)(w:World):Rep (n+1) S w [.int .i64 0,.int .i64 0,.string ⟨#[]⟩,.slice none 0 0,.slice none 0 0] (Qw:VS (V n)):=zbn S w (Qw:VS (V n)) rfl rfl (zaV (i:=0) Wo Wo) (zaV (i:=0) Wo Wo)
theorem Ku {n:Nat}:zP (n+1) (Qw:VS (V n)):=⟨by show 1+0≤20000;omega,by show 0+0+0≤400000;omega⟩
theorem enc_zero {n:Nat}:xV (n+1) (Qw:VS (V n))=([],40):=by
 have h:zV (n+1) (Qw:VS (V n))=40:=rfl;have h2:=encV_bad (n:=n+1) (v:=(Qw:VS (V n))) (by rw [h];decide);rw [h] at h2;exact h2
theorem keyId_any (k:yY)(A:YR k.bits)(r:k.root.length=32)(w:World)(z:xS w)(v:kg w):zG w 51 #[.agg (yV k)] (.string (qe k)):=by
 obtain⟨j,C⟩:=XE (w.alloc (.cells (yV k) 51));have p:Hid (zb [] w j):=qI (kA1 C.o);have N:Hid (yS j w.heap.size k):=qI (by rw [C.o];exact zd rfl);have O:=qI (keyValue_any k A r j);have M:=qI r;have HT:=qI (z.k0 p.o);have Gv:=qI (v.k0 p.o);have L:Hid (qe k=if yl k=true then jP (qj (xV 3 (Zp k)).1) else ⟨#[]⟩):=qI rfl;have Md:=qI (key_enc k r);have CZ:Hid (∀ w1:World,zb [] j w1→Calls prog 56 #[yX] w1 fun e w'=>(∃ a c,e = .returned (.tuple #[.slice a 0 c,.int .i64 40]))∧zb [] w1 w'):=qI (fun w1 I=>by
  refine (Z0 (n:=1) (K0 (n:=0) (fun _=>True) w1) Ku Wo ((z.k0 p.o).k0 I)).mono ?_;rintro e w' ⟨⟨a,c,f,-⟩,G⟩;rw [enc_zero] at f;exact⟨⟨a,c,f⟩,G⟩)
 obtain⟨KV,K⟩:=XE (Zp k);obtain⟨X,E⟩:=XE ((xV 3 (Zp k)).1);have F:Hid (yl k=true→∀ (w1:World) (cs:List Value) (S:Nat→Prop),zb [] j w1→Rep 3 S w1 cs KV→Calls prog 56 #[.agg cs.toArray] w1 fun e w'=>(∃ a c,e = .returned (.tuple #[.slice a X.length c,.int .i64 0])∧zm w' (.slice a X.length c) X)∧zb [] w1 w'):=qI (fun hm w1 cs S I l=>by
  rw [K.o] at l;have m:=Z0 l (small_key k r) Wo ((z.k0 p.o).k0 I);rw [(key_enc k r hm).1,← E.o] at m;exact m)
 have H:Hid (yl k=true→X.length≤262144):=qI (fun hm=>by rw [E.o];exact (key_enc k r hm).2);have P:Hid (qe k=if yl k=true then jP (qj X) else ⟨#[]⟩):=qI (by rw [E.o];exact L.o);clear A r z v Md E L;by_cases hm:yl k=true;rotate_left
 ·have B:Hid (∀ w' e,ZX j w' e k=(e = .returned yX)):=qI (fun w' e=>by unfold ZX;rw [XJ hm]);have D:Hid (qe k=⟨#[]⟩):=qI (by rw [P.o,XJ hm]);clear hm;go_enter func51,ntmps51;go_upto_region 1 with fail;rw [← C.o];go_wp2_with first
   | (refine yN Wk (.tmp 1) Wk N.o M.o Wk ?_)
   | (go_at_call 97;refine O.o.mono ?_;rintro e w1 ⟨f,b⟩;rw [B.o] at f;subst f;have q:=qI b;clear b)
   | (go_at_call 56;refine (CZ.o _ q.o).mono ?_;rintro e w2 ⟨⟨a2,c2,rfl⟩,d⟩;have t:=qI d;clear d)
  go_ret;exact⟨by rw [D.o];rfl,(p.o.then q.o).then t.o⟩
 have B:Hid (∀ w' e,ZX j w' e k=New 3 j w' e (Zp k)):=qI (fun w' e=>by unfold ZX;rw [XK hm]);have D:Hid (qe k=jP (qj X)):=qI (by rw [P.o,XK hm]);have F:=qI (F.o hm);have H:=qI (H.o hm);rw [← K.o] at B;clear hm K;go_enter func51,ntmps51;go_upto_region 1 with fail;rw [← C.o];go_upto_region 4 with first
  | (refine yN Wk (.tmp 1) Wk N.o M.o Wk ?_)
  | (go_at_call 97;refine O.o.mono ?_;rintro e w1 ⟨f,b⟩;rw [B.o] at f;obtain⟨k3,m3,s3,p3,i3,c3,q3,j3,e3,rfl,ho3⟩:=vE f;have Gp:=qI ho3;have q:=qI b;clear b f ho3)
  | (go_at_call 56;refine (F.o _ _ _ q.o Gp.o.rep).mono ?_;rintro e w2 ⟨⟨a2,c2,rfl,y⟩,d⟩;have Me:=qI y;have t:=qI d;clear d y)
 have Z:Hid (Calls prog 98 #[.slice (some ⟨w2.heap.size,0,none⟩) 1 1] (w2.alloc (.cells #[.slice a2 X.length c2] 32)) fun e w'=>e = .returned (.agg ((qj X).map bv).toArray)∧zb [] (w2.alloc (.cells #[.slice a2 X.length c2] 32)) w'):=qI (by
  have x:=(zb.refl [] w2).alloc (.cells #[.slice a2 X.length c2] 32);have m:=of_any (w2.alloc (.cells #[.slice a2 X.length c2] 32)) w2.heap.size 0 1 [.slice a2 X.length c2] [X] (JM w2 [.slice a2 X.length c2] _) ((zL.nil _).cons (Me.o.k0 x)) (by have:=H.o;simp;omega) Wz ((Gv.o.k0 (q.o.then t.o)).k0 x);rw [Xu,uX,Xn] at m;exact m)
 have R:Hid (zb [] w2 (w2.alloc (.cells #[.slice a2 X.length c2] 32))):=qI (Wd.alloc _);have Q:Hid (∀ (s:World) (g:Nat),yr s g (qj X)→Calls prog 52 #[.slice (some ⟨g,0,none⟩) 32 32] s fun e w'=>e = .returned (.string (jP (qj X)))∧zb [] s w'):=qI (fun s g h=>by
  have A:zm s (.slice (some ⟨g,0,none⟩) (qj X).length 32) (qj X):=⟨Wz,.inr (.inr ⟨g,0,32,rfl,by rw [yP];omega,Wo,⟨h.range,h.lt⟩⟩)⟩;have m:=za4 A (by rw [yP];decide) (by intro e;have:=yP X;rw [e] at this;cases this);rw [yP] at m;exact m)
 generalize J:jP (qj X)=hx at Q D;clear J;go_wp2_with first
  | (go_at_call 98;refine Z.o.mh ?_;rintro e w3 rfl U)
  | (refine zH Wk (.tmp 5) (.tmp 16) Wk (g:=w3.heap.size) (l0:=ku zX 0) (zd rfl) (yp _ _) (yP _) Wk Wk ?_;intro s Y u;have H4:=qI Y;have Gk:=qI u;clear Y u;simp only [Act.put])
  | (go_at_call 52;refine (Q.o _ _ H4.o).mh ?_;rintro e w5 rfl Gi)
 go_ret;exact⟨by rw [D.o];rfl,(((((p.o.then q.o).then t.o).then R.o).then U.o).alloc _).trans Gk.o (by intro i W;simp at W;subst W;refine .inr ?_;have:=((((p.o.then q.o).then t.o).then R.o).then U.o).size;omega) |>.then Gi.o⟩
def Fld (n:Nat)(w:World)(g:Nat)(v:VS (V n))(bad:Bool):Prop:=
 ∃ p c q d,w.heap[g]? = some (.cells #[.int .i64 v.kind,.int .i64 v.num,.string v.s,.slice p v.l.length c,.slice q v.m.length d,.bool bad] 114 (0,0)) ∧
  Rep (n+1) (fun k=>k<g) w [.int .i64 v.kind,.int .i64 v.num,.string v.s,.slice p v.l.length c,.slice q v.m.length d] v
theorem Fld.kept {n:Nat}{X:List Nat}{w w':World}{g:Nat}{v:VS (V n)}{bad:Bool}(h:Fld n w g v bad)(k:zb X w w')(a:∀ i,i∈X→g<i):Fld n w' g v bad:=by
 obtain⟨p,c,q,d,b,h2⟩:=h;exact⟨p,c,q,d,k.heap b (fun e=>by have:=a g e;omega),h2.kept k (fun i f=>by have:=a i f;omega)⟩
theorem Fld.k0 {n:Nat}{w:World}{g:Nat}{v:VS (V n)}{bad:Bool}(h:Fld n w g v bad)(k:zb [] w w'):Fld n w' g v bad:=h.kept k Wz
theorem Fld.lt {n:Nat}{w:World}{g:Nat}{v:VS (V n)}{bad:Bool}(h:Fld n w g v bad):g<w.heap.size:=by
 obtain⟨p,c,q,d,a,h2⟩:=h;exact lt_of_block a
theorem Fld.put {n:Nat}{w:World}{g:Nat}{v:VS (V n)}{bad:Bool}(h:Fld n w g v bad)(b:Bool):Fld n (w.setCell ⟨g,5,none⟩ (.bool b)) g v b:=by
 obtain⟨p,c,q,d,a,h2⟩:=h;exact⟨p,c,q,d,ze a rfl,h2.kept ((zb.refl [g] w).setCell (.inl Wz) _) (fun i e=>by simp at e;omega)⟩
theorem zcr {n:Nat}{S:Nat→Prop}{w:World}{cs:List Value}{v:VS (V n)}(h:Rep (n+1) S w cs v):Calls prog 31 #[.agg cs.toArray] w fun e w'=>(∃ g,w.heap.size≤g∧e = .returned (.pointer (some ⟨g,0,none⟩))∧Fld n w' g v (decide (v.kind≠6)))∧zb [] w w':=by
 obtain⟨x,vm,lcs,mcs,r⟩:=Rep.open_ h;obtain⟨p,c,q,d,rfl,rfl,rfl⟩:=r.forms;have H:=qI h;obtain⟨a,b⟩:=XE (w.alloc (.cells #[.int .i64 v.kind,.int .i64 v.num,.string v.s,.slice p v.l.length c,.slice q v.m.length d] 25));have j:Hid (zb [] w a):=qI (kA1 b.o);have t:Hid (yA a w.heap.size v.kind v.num v.s (.slice p v.l.length c) (.slice q v.m.length d)):=qI (by rw [b.o];exact xr _ _ _ _ _ _ _);have i:Hid (a.heap.size=w.heap.size+1):=qI (by rw [b.o];simp);obtain⟨c0,c1,c2,c3,c4⟩:=t.o;have u:Hid (decide (v.kind≠6)=(v.kind != 6)):=qI (by by_cases k:v.kind=6 <;> simp [k]);clear h r;go_enter func31,ntmps31;go_upto_region 1 with fail;rw [← b.o];go_wp2;go_ret;rw [u.o];have f:=(zb.refl [] a).alloc (.cells #[.int .i64 v.kind,.int .i64 v.num,.string v.s,.slice p v.l.length c,.slice q v.m.length d,.bool (v.kind != 6)] 114);refine⟨⟨a.heap.size,by have:=i.o;omega,rfl,p,c,q,d,zd rfl,Rep.k0 (Rep.k0 (Rep.mono H.o (T:=fun k=>k<a.heap.size) (fun k f _=>by have:=i.o;omega)) j.o) f⟩,j.o.then f⟩
section
variable {n : Nat} {w : World} {g : Nat} {v : VS (V n)} {bad : Bool}
theorem fok_any (h:Fld n w g v bad):Calls prog 81 #[.pointer (some ⟨g,0,none⟩)] w fun e w'=>e = .returned (.bool (!bad))∧w=w':=by
 obtain⟨p,c,q,d,a,-⟩:=h;have c5:=za (o:=5) (v:=.bool bad) a rfl;clear a;cases bad;all_goals
  go_enter func81,ntmps81;go_wp2;go_ret;exact⟨rfl,rfl⟩
theorem QH (h:Fld n w g v bad):Calls prog 36 #[.pointer (some ⟨g,0,none⟩)] w fun e w'=>e = .returned (.tuple #[])∧Fld n w' g v true∧zb [g] w w':=by
 have H:=qI h;obtain⟨p,c,q,d,a,-⟩:=h;have c5:=za (o:=5) (v:=.bool bad) a rfl;have b:=zh (o:=5) a;clear a;go_enter func36,ntmps36;go_wp2_with fail;go_end0;exact⟨rfl,H.o.put true,Wd.setCell (.inl Wz) _⟩
def doneZ (bad:Bool):Int:=if bad then 130 else 0
theorem fdone_any (h:Fld n w g v bad):Calls prog 35 #[.pointer (some ⟨g,0,none⟩)] w fun e w'=>e = .returned (.int .i64 (doneZ bad))∧w=w':=by
 have a:=qI (fok_any h);clear h;cases bad;all_goals
  go_enter func35,ntmps35;go_wp2_with (go_at_call 81;refine a.o.mono ?_;rintro e w1 ⟨rfl,rfl⟩);go_ret;exact⟨rfl,rfl⟩
end
def qo:(n:Nat)→V n→Int
 | 0,_=>0
 | _+1,(v:VS (V _))=>v.kind
def zai:(n:Nat)→V n→Int
 | 0,_=>0
 | _+1,(v:VS (V _))=>v.num
def bw:(n:Nat)→V n→ByteArray
 | 0,_=>⟨#[]⟩
 | _+1,(v:VS (V _))=>v.s
def vI:(n:Nat)→V n→Nat
 | 0,_=>0
 | _+1,(v:VS (V _))=>v.l.length
theorem Rep.heads:∀ {n:Nat}{S:Nat→Prop}{w:World}{k m:Int}{s:ByteArray}{a b:Value}{x:V n},Rep n S w [.int .i64 k,.int .i64 m,.string s,a,b] x→k=qo n x∧m=zai n x∧s=bw n x∧∃ p c,a = .slice p (vI n x) c
 | 0,_,_,_,_,_,_,_,x,_=>nomatch x
 | n+1,S,w,k,m,s,a,b,x,h=>by obtain⟨vl,vm,lcs,mcs,ho⟩:=Rep.open_ h;obtain⟨p,c,q,d,-,-,e⟩:=ho.forms;simp only [VG,Value.int.injEq,Value.string.injEq,and_true,true_and] at e;exact⟨e.1,e.2.1,e.2.2.1,p,c,e.2.2.2.1⟩
def jt {n:Nat}(v:VS (V n))(bad:Bool)(s:ByteArray)(kind:Int)(may:V n→Bool):Option (V n)×Bool:=
 if bad then (none,true) else match vJ v s with
 | none=>(none,true)
 | some x=>if qo n x=kind∧may x=true then (some x,false) else (none,true)
def Given (n:Nat)(w w':World)(e:Ending):Option (V n)→Prop
 | none=>e = .returned yX
 | some x=>New n w w' e x
section
variable {n : Nat} {w : World} {g : Nat} {v : VS (V n)} {bad : Bool}
theorem zbf (F:FuncId)(P:Array Value)(f:V n→Bool)(h:Fld n w g v bad)(hs:zP (n+1) v)(s:ByteArray)(kind:Int)(hF:∀ (args:Array Value) (w:World),(callFunc F args).run prog w = .ok (.enter F args) w)(U:∀ (x:V n) (S:Nat→Prop) (w1:World) (cs:List Value),zb [] w w1→Rep n S w1 cs x→Calls prog F (#[.agg cs.toArray]++P) w1 fun e w'=>e = .returned (.bool (f x))∧zb [] w1 w') : Calls prog 77 #[.pointer (some ⟨g,0,none⟩),.string s,.int .i64 kind,.func (.func F) #[] P] w fun e w'=>Given n w w' e (jt v bad s kind f).1∧Fld n w' g v (jt v bad s kind f).2∧zb [g] w w':=by
 obtain⟨M,Gc⟩:=XE (w.alloc (.cells #[.int .i64 0,.int .i64 0,.string ⟨#[]⟩,.slice none 0 0,.slice none 0 0] 25));have X:Hid (zb [] w M):=qI (kA1 Gc.o);have Gg:Hid (M.heap[w.heap.size]? = some (.cells #[.int .i64 0,.int .i64 0,.string ⟨#[]⟩,.slice none 0 0,.slice none 0 0] 25 (0,0))):=qI (by rw [Gc.o];exact zd rfl);have Jb:Hid (M.heap.size=w.heap.size+1):=qI (by rw [Gc.o];simp);have O:Hid (g<w.heap.size):=qI h.lt;have HF:=qI hF;have HM:=qI U;have Mf:=qI hs;have Y:=qI (h.k0 X.o);have CO:=qI (fok_any Y.o);have Jc:Hid (jt v bad s kind f=if bad then (none,true) else match vJ v s with
  | none=>(none,true)
  | some x=>if qo n x=kind∧f x=true then (some x,false) else (none,true)):=qI rfl
 have HZ:Hid (∀ w1:World,w1.heap[w.heap.size]? = some (.cells #[.int .i64 0,.int .i64 0,.string ⟨#[]⟩,.slice none 0 0,.slice none 0 0] 25 (0,0))→yA w1 w.heap.size 0 0 ⟨#[]⟩ (.slice none 0 0) (.slice none 0 0)∧∀ j,w1.frozen? ⟨w.heap.size,j,none⟩=false):=qI (fun w1 hb=>⟨yD hb,fun j=>zh hb⟩);clear hF U hs h;cases bad with
 | true=>obtain⟨⟨r0,r1,r2,r3,r4⟩,z⟩:=HZ.o _ Gg.o;go_enter func77,ntmps77;go_upto_region 1 with fail;rw [← Gc.o];go_wp2_with (go_at_call 81;refine CO.o.mono ?_;rintro e w1 ⟨rfl,rfl⟩);change bodyPost _ _ _ _ _ (xU M w.heap.size 0 0 ⟨#[]⟩ (.slice none 0 0) (.slice none 0 0));have b:=yv M w.heap.size 0 0 ⟨#[]⟩ (.slice none 0 0) (.slice none 0 0);obtain⟨A,C,D,u,B⟩:=yD (xE Gg.o 0 0 ⟨#[]⟩ (.slice none 0 0) (.slice none 0 0));revert b A C D u B;generalize xU M w.heap.size 0 0 ⟨#[]⟩ (.slice none 0 0) (.slice none 0 0)=WF;intro b A C D u B;refine bodyPost_ret (v:=yX) (by simp [results,results77,go_sem,A,C,D,u,B,yX]) rfl ?_;rw [Jc.o];exact⟨rfl,Y.o.kept b (by intro i a;simp at a;subst a;exact O.o),(X.o.trans b (by intro i a;simp at a;subst a;exact .inr (XA))).mono Wz⟩
 | false=>
  obtain⟨p,c,q,d,h1,h2⟩:=Y.o;have CG:=qI (get_any h2 Mf.o s);have c0:=za (o:=0) (v:=.int .i64 v.kind) h1 rfl;have c1:=za (o:=1) (v:=.int .i64 v.num) h1 rfl;have c2:=za (o:=2) (v:=.string v.s) h1 rfl;have c3:=za (o:=3) (v:=.slice p v.l.length c) h1 rfl;have c4:=za (o:=4) (v:=.slice q v.m.length d) h1 rfl;clear h1 h2;revert CG Jc;generalize vJ v s=r;intro Jc CG;cases r with
  | none=>
   have Gx:Hid (jt v false s kind f=(none,true)):=qI Jc.o;go_enter func77,ntmps77;go_upto_region 1 with fail;rw [← Gc.o];go_upto_region 5 with first
    | (go_at_call 81;refine CO.o.mono ?_;rintro e w1 ⟨rfl,rfl⟩)
    | (go_at_call 61;refine CG.o.mono ?_;rintro e w2 ⟨he,L⟩;change e=_ at he;subst he;unfold yX;have Gm:=qI L;clear L)
   obtain⟨R,Q⟩:=XE (w2.alloc (.cells #[.int .i64 0,.int .i64 0,.string ⟨#[]⟩,.slice none 0 0,.slice none 0 0] 25));have H:Hid (zb [] M R):=qI (by rw [Q.o];exact Gm.o.alloc _);have Jl:=qI (Y.o.k0 H.o);have Mg:=qI (H.o.heap Gg.o Wz);have Gt:Hid (zb [g] w R):=qI ((X.o.then H.o).mono Wz);rw [← Q.o];clear c0 c1 c2 c3 c4;go_wp2_with (go_at_call 36;refine (QH Jl.o).mono ?_;rintro e G ⟨rfl,E,t⟩;have Jd:=qI E;have Gv:=qI (Gt.o.trans' t);have K:=qI (t.heap Mg.o (by have:=O.o;simp;omega));obtain⟨⟨r0,r1,r2,r3,r4⟩,z⟩:=HZ.o _ K.o;clear E t);change bodyPost _ _ _ _ _ (xU G w.heap.size 0 0 ⟨#[]⟩ (.slice none 0 0) (.slice none 0 0));have b:=yv G w.heap.size 0 0 ⟨#[]⟩ (.slice none 0 0) (.slice none 0 0);obtain⟨A,C,D,u,B⟩:=yD (xE K.o 0 0 ⟨#[]⟩ (.slice none 0 0) (.slice none 0 0));revert b A C D u B;generalize xU G w.heap.size 0 0 ⟨#[]⟩ (.slice none 0 0) (.slice none 0 0)=WF;intro b A C D u B;refine bodyPost_ret (v:=yX) (by simp [results,results77,go_sem,A,C,D,u,B,yX]) rfl ?_;rw [Gx.o];exact⟨rfl,Jd.o.kept b (by intro i a;simp at a;subst a;exact O.o),Gv.o.trans b (by intro i a;simp at a;subst a;exact .inr (XA))⟩
  | some x=>
   have Z:Hid (jt v false s kind f=if qo n x=kind∧f x=true then (some x,false) else (none,true)):=qI Jc.o;go_enter func77,ntmps77;go_upto_region 1 with fail;rw [← Gc.o];go_upto_region 4 with first
    | (go_at_call 81;refine CO.o.mono ?_;rintro e w1 ⟨rfl,rfl⟩)
    | (go_at_call 61;refine CG.o.mono ?_;rintro e w2 ⟨⟨ad,he,N⟩,L⟩;obtain⟨k3,m3,s3,p3,i3,c3',q3,j3,e3,rfl⟩:=N.rep.conv;subst he;obtain⟨y,hnm,hst,-⟩:=N.rep.heads;have Mh:=qI N;have Jt:=qI y;have Gm:=qI L;clear L N y hnm hst)
   obtain⟨R,Q⟩:=XE (w2.alloc (.cells #[.int .i64 k3,.int .i64 m3,.string s3,.slice p3 i3 c3',.slice q3 j3 e3] 25));have H:Hid (zb [] M R):=qI (by rw [Q.o];exact Gm.o.alloc _);have Ju:Hid (R.heap[w2.heap.size]? = some (.cells #[.int .i64 k3,.int .i64 m3,.string s3,.slice p3 i3 c3',.slice q3 j3 e3] 25 (0,0))):=qI (by rw [Q.o];exact zd rfl);have Gp:Hid (jH n (fun g=>M.heap.size≤g∧g<w2.heap.size) R [.int .i64 k3,.int .i64 m3,.string s3,.slice p3 i3 c3',.slice q3 j3 e3] x):=qI (by rw [Q.o];exact Mh.o.k0 ((zb.refl [] _).alloc _));have Mi:=qI Gp.o.rep;have Jm:Hid (R.heap.size=w2.heap.size+1):=qI (by rw [Q.o];simp);rw [← Q.o];clear c0 c1 c2 c3 c4;obtain⟨b0,b1,b2,b3,b4⟩:=yD Ju.o;by_cases y:k3=kind;rotate_left;·have f1:=(zq y).2;have Gx:Hid (jt v false s kind f=(none,true)):=qI (by rw [Z.o,XJ (fun h=>y (by rw [Jt.o];exact h.1))]);clear y;go_wp2_with (go_at_call 36;refine (QH (Y.o.k0 H.o)).mono ?_;rintro e G ⟨rfl,E,t⟩;have Jd:=qI E;have Gv:Hid (zb [g] w G):=qI (((X.o.then H.o).mono Wz).trans' t);have K:=qI (t.heap ((H.o).heap Gg.o Wz) (by have:=O.o;simp;omega));obtain⟨⟨r0,r1,r2,r3,r4⟩,z⟩:=HZ.o _ K.o;clear E t);change bodyPost _ _ _ _ _ (xU G w.heap.size 0 0 ⟨#[]⟩ (.slice none 0 0) (.slice none 0 0));have b:=yv G w.heap.size 0 0 ⟨#[]⟩ (.slice none 0 0) (.slice none 0 0);obtain⟨A,C,D,u,B⟩:=yD (xE K.o 0 0 ⟨#[]⟩ (.slice none 0 0) (.slice none 0 0));revert b A C D u B;generalize xU G w.heap.size 0 0 ⟨#[]⟩ (.slice none 0 0) (.slice none 0 0)=WF;intro b A C D u B;refine bodyPost_ret (v:=yX) (by simp [results,results77,go_sem,A,C,D,u,B,yX]) rfl ?_;rw [Gx.o];exact⟨rfl,Jd.o.kept b (by intro i a;simp at a;subst a;exact O.o),Gv.o.trans b (by intro i a;simp at a;subst a;exact .inr (XA))⟩
   have f1:=(yq y).2;have Mj:Hid (qo n x=kind):=qI (by rw [← Jt.o,y]);clear y;have CM:=qI (HM.o x _ R _ (X.o.then H.o) Mi.o);rcases Bool.eq_false_or_eq_true (f x) with hm | hm
   rotate_left
   ·rw [hm] at CM;have Gx:Hid (jt v false s kind f=(none,true)):=qI (by rw [Z.o,XJ (fun h=>by rw [hm] at h;cases h.2)]);clear hm;have aa:=HF.o;go_wp2_with first
     | (refine CM.o.mono ?_;rintro e I ⟨rfl,J⟩;have W:=qI J;clear J b0 b1 b2 b3 b4)
     | (go_at_call 36;refine (QH (Y.o.k0 (H.o.then W.o))).mono ?_;rintro e G ⟨rfl,E,t⟩;have Jd:=qI E;have Gv:Hid (zb [g] w G):=qI (((X.o.then (H.o.then W.o)).mono Wz).trans' t);have K:=qI (t.heap (((H.o.then W.o)).heap Gg.o Wz) (by have:=O.o;simp;omega));obtain⟨⟨r0,r1,r2,r3,r4⟩,z⟩:=HZ.o _ K.o;clear E t)
    change bodyPost _ _ _ _ _ (xU G w.heap.size 0 0 ⟨#[]⟩ (.slice none 0 0) (.slice none 0 0));have b:=yv G w.heap.size 0 0 ⟨#[]⟩ (.slice none 0 0) (.slice none 0 0);obtain⟨A,C,D,u,B⟩:=yD (xE K.o 0 0 ⟨#[]⟩ (.slice none 0 0) (.slice none 0 0));revert b A C D u B;generalize xU G w.heap.size 0 0 ⟨#[]⟩ (.slice none 0 0) (.slice none 0 0)=WF;intro b A C D u B;refine bodyPost_ret (v:=yX) (by simp [results,results77,go_sem,A,C,D,u,B,yX]) rfl ?_;rw [Gx.o];exact⟨rfl,Jd.o.kept b (by intro i a;simp at a;subst a;exact O.o),Gv.o.trans b (by intro i a;simp at a;subst a;exact .inr (XA))⟩
   rw [hm] at CM;have Gx:Hid (jt v false s kind f=(some x,false)):=qI (by rw [Z.o,XK ⟨Mj.o,hm⟩]);clear hm;have aa:=HF.o;go_upto_region 7 with (refine CM.o.mono ?_;rintro e I ⟨rfl,J⟩;have W:=qI J;clear J b0 b1 b2 b3 b4);have Gi:Hid (zb [] M I):=qI (H.o.then W.o);have Gy:=qI (W.o.heap Ju.o Wz);have K:=qI (Gi.o.heap Gg.o Wz);obtain⟨b0,b1,b2,b3,b4⟩:=yD Gy.o;obtain⟨⟨r0,r1,r2,r3,r4⟩,z⟩:=HZ.o _ K.o;clear aa;go_wp2_with fail;change bodyPost _ _ _ _ _ (xU I w.heap.size k3 m3 s3 (.slice p3 i3 c3') (.slice q3 j3 e3));have b:=yv I w.heap.size k3 m3 s3 (.slice p3 i3 c3') (.slice q3 j3 e3);obtain⟨A,C,D,u,B⟩:=yD (xE K.o k3 m3 s3 (.slice p3 i3 c3') (.slice q3 j3 e3));revert b A C D u B;generalize xU I w.heap.size k3 m3 s3 (.slice p3 i3 c3') (.slice q3 j3 e3)=WF;intro b A C D u B;refine bodyPost_ret (v:=.agg #[.int .i64 k3,.int .i64 m3,.string s3,.slice p3 i3 c3',.slice q3 j3 e3]) (by simp [results,results77,go_sem,A,C,D,u,B]) rfl ?_;rw [Gx.o];have ae:=Jb.o;have af:=Jm.o;have ab:=W.o.size;have ag:=b.size;refine⟨⟨_,rfl,((Gp.o.k0 W.o).kept b (by intro k hk;simp at hk;subst hk;omega)).mono (fun g' ⟨h5,h6⟩=>⟨Ws,Ws⟩)⟩,(Y.o.k0 Gi.o).kept b (by intro i a;simp at a;subst a;exact O.o),((X.o.then Gi.o).mono Wz).trans b (by intro i a;simp at a;subst a;exact .inr (XA))⟩
end
def jC {n:Nat}(v:VS (V n))(bad:Bool)(s:ByteArray)(most:Int):ByteArray×Bool:=
 let r:=jt v bad s 4 (fun x=>decide (((bw n x).size:Int)≤most))
 (match r.1 with | none=>⟨#[]⟩ | some x=>bw n x,r.2)
def zbr {n:Nat}(v:VS (V n))(bad:Bool)(s:ByteArray):Option (V n)×Bool:=jt v bad s 6 (fun _=>true)
def bu {n:Nat}(v:VS (V n))(bad:Bool)(s:ByteArray)(most:Int):Option (V n)×Bool:=jt v bad s 5 (fun x=>decide ((vI n x:Int)≤most))
theorem fieldStr (W:World)(k m:Int)(s:ByteArray)(a b:Value):(Instr.field 25 (.agg #[.int .i64 k,.int .i64 m,.string s,a,b]) 2).run prog W = .ok (.string s) W:=Wr
theorem fieldLst (W:World)(k m:Int)(s:ByteArray)(a b:Value):(Instr.field 25 (.agg #[.int .i64 k,.int .i64 m,.string s,a,b]) 3).run prog W = .ok a W:=Wr
theorem enterText:∀ (args:Array Value) (w:World),(callFunc 80 args).run prog w = .ok (.enter 80 args) w:=enters_of func80 Wr rfl
theorem enterList:∀ (args:Array Value) (w:World),(callFunc 79 args).run prog w = .ok (.enter 79 args) w:=enters_of func79 Wr rfl
theorem enterAny:∀ (args:Array Value) (w:World),(callFunc 78 args).run prog w = .ok (.enter 78 args) w:=enters_of func78 Wr rfl
theorem Rep.gone {n:Nat}{S:Nat→Prop}{w:World}{cs:List Value}{x:V n}(h:Rep n S w cs x):∃ s p c q j d,cs=[.int .i64 (qo n x),.int .i64 (zai n x),.string s,.slice p (vI n x) c,.slice q j d]∧s=bw n x:=by
 obtain⟨k,m,s,p,i,c,q,j,d,rfl⟩:=h.conv;obtain⟨rfl,rfl,h3,b,e,a⟩:=h.heads;simp only [XU] at a;obtain⟨rfl,rfl,rfl⟩:=a;exact⟨s,_,_,q,j,d,rfl,h3⟩
section
variable {n : Nat} {w : World} {x : V n} {S : Nat → Prop} {cs : List Value}
theorem mayText_any (h:Rep n S w cs x){b:Nat}{a:Int}(e:w.cell? ⟨b,0,none⟩=some (.int .i64 a)) : zG w 80 #[.agg cs.toArray,.pointer (some ⟨b,0,none⟩)] (.bool (decide (((bw n x).size:Int)≤a))):=by
 obtain⟨s,p,c,q,j,d,rfl,f⟩:=h.gone;rw [← f];clear f h;have c1:∀ o:Obj,(w.alloc o).cell? ⟨b,0,none⟩=some (.int .i64 a):=fun o=>((zb.refl [] w).alloc o).cell e Wz
 have i:Hid (∀ o:Obj,zb [] w (w.alloc o)):=qI (fun o=>(zb.refl [] w).alloc o);clear e;go_enter func80,ntmps80;go_wp2;go_ret;exact⟨rfl,i.o _⟩
theorem mayList_any (h:Rep n S w cs x){b:Nat}{a:Int}(e:w.cell? ⟨b,0,none⟩=some (.int .i64 a)) : zG w 79 #[.agg cs.toArray,.pointer (some ⟨b,0,none⟩)] (.bool (decide ((vI n x:Int)≤a))):=by
 obtain⟨s,p,c,q,j,d,rfl,i⟩:=h.gone;generalize vI n x=z;clear i h;have c1:∀ o:Obj,(w.alloc o).cell? ⟨b,0,none⟩=some (.int .i64 a):=fun o=>((zb.refl [] w).alloc o).cell e Wz
 have f:Hid (∀ o:Obj,zb [] w (w.alloc o)):=qI (fun o=>(zb.refl [] w).alloc o);clear e;go_enter func79,ntmps79;go_wp2;go_ret;exact⟨rfl,f.o _⟩
theorem mayAny_any (h:Rep n S w cs x):zG w 78 #[.agg cs.toArray] (.bool true):=by
 obtain⟨s,p,c,q,j,d,rfl,a⟩:=h.gone;clear a h;go_enter func78,ntmps78;go_wp2;go_ret;exact⟨rfl,Wd.alloc _⟩
end
section
variable {n : Nat} {w : World} {g : Nat} {v : VS (V n)} {bad : Bool}
theorem ftext_any (h:Fld n w g v bad)(y:zP (n+1) v)(s:ByteArray)(a:Int):Calls prog 34 #[.pointer (some ⟨g,0,none⟩),.string s,.int .i64 a] w fun e w'=>e = .returned (.string (jC v bad s a).1)∧Fld n w' g v (jC v bad s a).2∧zb [g] w w':=by
 obtain⟨u,l⟩:=XE (w.alloc (.cells #[.int .i64 a] 3));have q:Hid (zb [] w u):=qI (kA1 l.o);have t:u.cell? ⟨w.heap.size,0,none⟩=some (.int .i64 a):=by rw [l.o];exact za (zd rfl) rfl
 have j:=qI (zbf 80 #[.pointer (some ⟨w.heap.size,0,none⟩)] (fun x=>decide (((bw n x).size:Int)≤a)) (h.k0 q.o) y s 4 enterText (fun x S w1 cs d A=>mayText_any A (d.cell t Wz)));have f:Hid (jC v bad s a=(match (jt v bad s 4 (fun x=>decide (((bw n x).size:Int)≤a))).1 with | none=>⟨#[]⟩ | some x=>bw n x,(jt v bad s 4 (fun x=>decide (((bw n x).size:Int)≤a))).2)):=qI rfl;clear t h y;revert j f;generalize jt v bad s 4 (fun x=>decide (((bw n x).size:Int)≤a))=R;intro j f;obtain⟨r,b⟩:=R;simp only at j f;have C:=fieldStr;cases r with
 | none=>go_enter func34,ntmps34;go_upto_region 1 with fail;rw [← l.o];go_wp2_with (go_at_call 77;refine j.o.mono ?_;rintro e w1 ⟨k,i,d⟩;change e=_ at k;subst k;unfold yX;have p:=qI i;have m:=qI d;clear i d);go_ret;rw [f.o];exact⟨rfl,p.o,(q.o.mono Wz).trans' m.o⟩
 | some x=>go_enter func34,ntmps34;go_upto_region 1 with fail;rw [← l.o];go_wp2_with (go_at_call 77;refine j.o.mono ?_;rintro e w1 ⟨⟨cs,k,z⟩,i,d⟩;obtain⟨s3,p3,c3,q3,j3,d3,rfl,hs3⟩:=z.rep.gone;subst k;have B:=qI hs3;clear hs3;have p:=qI i;have m:=qI d;clear i d z);go_ret;rw [f.o];exact⟨by show _=Ending.returned (.string (bw n x));rw [← B.o];rfl,p.o,(q.o.mono Wz).trans' m.o⟩
theorem fmap_any (h:Fld n w g v bad)(K:zP (n+1) v)(s:ByteArray):Calls prog 32 #[.pointer (some ⟨g,0,none⟩),.string s] w fun e w'=>Given n w w' e (zbr v bad s).1∧Fld n w' g v (zbr v bad s).2∧zb [g] w w':=by
 obtain⟨H,A⟩:=XE (w.alloc (.cells #[.int .i64 0,.int .i64 0,.string ⟨#[]⟩,.slice none 0 0,.slice none 0 0] 25));have G:Hid (zb [] w H):=qI (kA1 A.o);have J:Hid (H.heap[w.heap.size]? = some (.cells #[.int .i64 0,.int .i64 0,.string ⟨#[]⟩,.slice none 0 0,.slice none 0 0] 25 (0,0))):=qI (by rw [A.o];exact zd rfl);have M:Hid (H.heap.size=w.heap.size+1):=qI (by rw [A.o];simp);have E:Hid (g<w.heap.size):=qI h.lt;have D:=qI (zbf 78 #[] (fun _=>true) (h.k0 G.o) K s 6 enterAny (fun x S w1 cs a O=>mayAny_any O));have y:Hid (zbr v bad s=jt v bad s 6 (fun _=>true)):=qI rfl;clear h K;revert D y;generalize jt v bad s 6 (fun _=>true)=R;intro D y;obtain⟨r,b⟩:=R;simp only at D y;cases r with
 | none=>go_enter func32,ntmps32;go_upto_region 1 with fail;rw [← A.o];go_wp2_with (go_at_call 77;refine D.o.mono ?_;rintro e w1 ⟨C,B,a⟩;change e=_ at C;subst C;unfold yX;have F:=qI B;have I:=qI a;have q:=qI (a.heap J.o (by have:=E.o;simp;omega));obtain⟨r0,r1,r2,r3,r4⟩:=yD q.o;have z:∀ j,w1.frozen? ⟨w.heap.size,j,none⟩=false:=fun j=>zh q.o;clear B a);change bodyPost _ _ _ _ _ (xU w1 w.heap.size 0 0 ⟨#[]⟩ (.slice none 0 0) (.slice none 0 0));have d:=yv w1 w.heap.size 0 0 ⟨#[]⟩ (.slice none 0 0) (.slice none 0 0);obtain⟨m,p,t,l,u⟩:=yD (xE q.o 0 0 ⟨#[]⟩ (.slice none 0 0) (.slice none 0 0));revert d m p t l u;generalize xU w1 w.heap.size 0 0 ⟨#[]⟩ (.slice none 0 0) (.slice none 0 0)=WF;intro d m p t l u;refine bodyPost_ret (v:=yX) (by simp [results,results32,go_sem,m,p,t,l,u,yX]) rfl ?_;rw [y.o];exact⟨rfl,F.o.kept d (by intro i f;simp at f;subst f;exact E.o),((G.o.mono Wz).trans' I.o).trans d (by intro i f;simp at f;subst f;exact .inr (XA))⟩
 | some x=>go_enter func32,ntmps32;go_upto_region 1 with fail;rw [← A.o];go_wp2_with (go_at_call 77;refine D.o.mono ?_;rintro e w1 ⟨C,B,a⟩;obtain⟨k3,m3,s3,p3,i3,c3,q3,j3,e3,rfl,ho⟩:=vE C;have L:=qI ho;have F:=qI B;have I:=qI a;have q:=qI (a.heap J.o (by have:=E.o;simp;omega));obtain⟨r0,r1,r2,r3,r4⟩:=yD q.o;have z:∀ j,w1.frozen? ⟨w.heap.size,j,none⟩=false:=fun j=>zh q.o;clear B a ho C);change bodyPost _ _ _ _ _ (xU w1 w.heap.size k3 m3 s3 (.slice p3 i3 c3) (.slice q3 j3 e3));have d:=yv w1 w.heap.size k3 m3 s3 (.slice p3 i3 c3) (.slice q3 j3 e3);obtain⟨m,p,t,l,u⟩:=yD (xE q.o k3 m3 s3 (.slice p3 i3 c3) (.slice q3 j3 e3));revert d m p t l u;generalize xU w1 w.heap.size k3 m3 s3 (.slice p3 i3 c3) (.slice q3 j3 e3)=WF;intro d m p t l u;refine bodyPost_ret (v:=.agg #[.int .i64 k3,.int .i64 m3,.string s3,.slice p3 i3 c3,.slice q3 j3 e3]) (by simp [results,results32,go_sem,m,p,t,l,u]) rfl ?_;rw [y.o];have P:=M.o;have N:=d.size;exact⟨⟨_,rfl,(L.o.kept d (by intro k a;simp at a;subst a;omega)).mono (fun g' ⟨h5,h6⟩=>⟨Ws,Ws⟩)⟩,F.o.kept d (by intro i f;simp at f;subst f;exact E.o),((G.o.mono Wz).trans' I.o).trans d (by intro i f;simp at f;subst f;exact .inr (XA))⟩
def KH (n:Nat)(w w':World)(e:Ending):Option (V n)→Prop
 | none=>e = .returned (.slice none 0 0)
 | some x=>∃ s p c q j d,e = .returned (.slice p (vI n x) c)∧jH n (fun g=>w.heap.size≤g∧g<w'.heap.size) w' [.int .i64 (qo n x),.int .i64 (zai n x),.string s,.slice p (vI n x) c,.slice q j d] x
theorem flist_any (h:Fld n w g v bad)(z:zP (n+1) v)(s:ByteArray)(a:Int):Calls prog 33 #[.pointer (some ⟨g,0,none⟩),.string s,.int .i64 a] w fun e w'=>KH n w w' e (bu v bad s a).1∧Fld n w' g v (bu v bad s a).2∧zb [g] w w':=by
 obtain⟨t,j⟩:=XE (w.alloc (.cells #[.int .i64 a] 3));have q:Hid (zb [] w t):=qI (kA1 j.o);have C:Hid (t.heap.size=w.heap.size+1):=qI (by rw [j.o];simp);have y:t.cell? ⟨w.heap.size,0,none⟩=some (.int .i64 a):=by rw [j.o];exact za (zd rfl) rfl
 have k:=qI (zbf 79 #[.pointer (some ⟨w.heap.size,0,none⟩)] (fun x=>decide ((vI n x:Int)≤a)) (h.k0 q.o) z s 5 enterList (fun x S w1 cs d B=>mayList_any B (d.cell y Wz)));have f:Hid (bu v bad s a=jt v bad s 5 (fun x=>decide ((vI n x:Int)≤a))):=qI rfl;clear y h z;revert k f;generalize jt v bad s 5 (fun x=>decide ((vI n x:Int)≤a))=R;intro k f;obtain⟨r,b⟩:=R;simp only at k f;have E:=fieldLst;cases r with
 | none=>go_enter func33,ntmps33;go_upto_region 1 with fail;rw [← j.o];go_wp2_with (go_at_call 77;refine k.o.mono ?_;rintro e w1 ⟨l,i,d⟩;change e=_ at l;subst l;unfold yX;have p:=qI i;have m:=qI d;clear i d);go_ret;rw [f.o];exact⟨rfl,p.o,(q.o.mono Wz).trans' m.o⟩
 | some x=>go_enter func33,ntmps33;go_upto_region 1 with fail;rw [← j.o];go_wp2_with (go_at_call 77;refine k.o.mono ?_;rintro e w1 ⟨⟨cs,l,u⟩,i,d⟩;obtain⟨s3,p3,c3,q3,j3,d3,rfl,-⟩:=u.rep.gone;subst l;have p:=qI i;have m:=qI d;have A:=qI u;clear i d u);go_ret;rw [f.o];have D:=C.o;exact⟨⟨_,_,_,_,_,_,rfl,A.o.mono (fun g' ⟨h5,h6⟩=>⟨Ws,h6⟩)⟩,p.o,(q.o.mono Wz).trans' m.o⟩
end
theorem J9 (s:ByteArray)(d:s.size≤140737488355328)(w:World):Calls prog 58 #[.string s] w fun e w'=>(match xn s with | none=>e = .returned (.tuple #[.slice none 0 0,.int .i64 10]) | some l=>∃ a c,e = .returned (.tuple #[.slice a l.length c,.int .i64 0])∧zm w' (.slice a l.length c) l∧∀ g,yt (.slice a l.length c)=some g→w.heap.size≤g)∧zb [] w w':=by
 unfold xn;by_cases h:s.size%2=0∧s.data.toList.all yW=true
 ·rw [XK h];refine (unhex_yes s d h.1 h.2 w).mono ?_;rintro e w' ⟨⟨a,c,rfl,f⟩,j⟩;exact⟨⟨a,c,rfl,by
   have b:=Slc.of_row f;exact b,fun g i=>(f.lt g (yL i)).1⟩,j⟩
 ·rw [XJ h];refine unhex_no s d ?_ w;rw [not_and] at h;rcases Nat.mod_two_eq_zero_or_one s.size with b | b
  ·exact .inr (by simpa using h b)
  ·exact .inl b
def ZV:List UInt8:=List.replicate 32 0
def jJ:yY:=⟨0,0,ZV⟩
theorem bq {w:World}(f:Region.wanted op (yielded ops a.tmps)=true)(x:Operand)(j:op.op = .load 51 x){g:Nat}(d:yS w g k)(b:k.root.length=32)(i:a.eval x = .pointer (some ⟨g,0,none⟩))(h:wpList prog ops Q rest (a.put op.dst (.agg (yV k))) w):wpList prog ops Q (op::rest) a w:=
 BigFrame.wpList_want f fun _ e=>wp_load_mid 51 x j g 0 i (bf k) _ d.range underlying51 rfl (by rw [xW b];exact J4) (e _ _ h)
theorem keyL_one (k:yY):∀ v∈bf k,v.oneCell'=true:=by
 intro v hv;rcases XY.1 hv with rfl | hv;·rfl
 rcases XY.1 hv with rfl | hv;·rfl
 exact qr _ v hv
theorem yS.there {w:World}{g:Nat}{k:yY}(h:yS w g k)(b:k.root.length=32):w.there g 0 34:=fun j d=>by
 rw [Xd];have a:j<(bf k).length:=by rw [xW b];exact d
 exact⟨by rw [za (v:=(bf k)[j]) h (by simp [yV,a])];rfl,zh h⟩
theorem yS.lt {w:World}{g:Nat}(h:yS w g k):g<w.heap.size:=lt_of_block h
theorem yS.put {w:World}{g:Nat}{f:yY}(h:yS w g k)(n:k.root.length=32)(b:f.root.length=32):yS (w.setCells g 0 (bf f)) g f:=by
 obtain⟨j,p,h2,h3⟩:=qN g (bf f) 0 w _ h;have l:(yV k).size=34:=by simp [yV,xW n]
 have e:j=yV f:=by
  apply Array.ext;·rw [h2,l];simp [yV,xW b]
  ·intro i a q;have d:i<34:=by rw [h2,l] at a;exact a
   have m:=h3 i (by rw [l];exact d);rw [XK (by rw [xW b];omega),uh a,Nat.sub_zero,XN (by rw [xW b];exact d)] at m;rw [Option.some.inj m];simp [yV]
 unfold yS;rw [p,e]
theorem yS.setRoot {w:World}{g:Nat}{a:List UInt8}(s:yS w g ⟨b,h,r⟩)(l:r.length=32)(d:a.length=32):yS (w.setCells g 2 (a.map bv)) g ⟨b,h,a⟩:=by
 obtain⟨f,n,h2,h3⟩:=qN g (a.map bv) 2 w _ s;have k:(yV ⟨b,h,r⟩).size=34:=by simp [yV,bf,l]
 have e:f=yV ⟨b,h,a⟩:=by
  apply Array.ext';apply VL;intro i;have q:(yV ⟨b,h,a⟩).toList = .int .i64 b :: .int .i64 h::a.map bv:=rfl;rw [q,uP];by_cases p:i<34
  ·rw [h3 i (by rw [k];exact p)];by_cases m:2≤i;·rw [XK (by simp [d];omega)];obtain⟨j,rfl⟩:∃ j,i=j+2:=⟨i - 2,Ws⟩;rfl
   ·rw [XJ Ws];obtain rfl | rfl:i=0∨i=1:=Ws
    ·rfl
    ·rfl
  ·rw [Xy (by rw [h2,k];omega),uQ (by simp [d];omega)]
 unfold yS;rw [n,e]
theorem Y4 {w:World}(e:op.guard=none)(x y:Operand)(m:op.op = .store 51 x y){g:Nat}{k0:yY}(i:yS w g k0)(d:k0.root.length=32)(f:k.root.length=32)(l:a.eval x = .pointer (some ⟨g,0,none⟩))(j:a.eval y = .agg (yV k))(h:∀ w',yS w' g k→zb [g] w w'→wpList prog ops Q rest (a.put op.dst undef) w'):wpList prog ops Q (op::rest) a w:=by
 have b:(yV k).size=34:=by simp [yV,xW f]
 refine wpList_store_mid e 51 x y m g 0 (yV k) l j (by rw [b];exact i.there d) (by rw [b];exact J4) (all_oneCell_toArray (keyL_one k)) (h _ ?_ (yO _ _ _ _));exact i.put d f
theorem yS.var {w:World}{g:Nat}(h:yS w g k)(a:k.root.length=32):(loadVar 51 ⟨g,0,none⟩).run prog w = .ok (.agg (yV k)) w:=run_loadVar_mid (P:=prog) w g 0 51 (bf k) _ h.range underlying51 rfl (by rw [xW a];exact J4)
theorem JX {w:World}(e:op.guard=none)(x y:Operand)(t:op.op = .store 49 x y){g:Nat}{l:List UInt8}(i:yS w g ⟨b,h,r⟩)(k:r.length=32)(m:l.length=32)(s:a.eval x = .pointer (some ⟨g,2,none⟩))(p:a.eval y = .agg (l.map bv).toArray)(n:∀ w',yS w' g ⟨b,h,l⟩→zb [g] w w'→wpList prog ops Q rest (a.put op.dst undef) w'):wpList prog ops Q (op::rest) a w:=by
 have d:(l.map bv).toArray.size=32:=by simp [m]
 refine wpList_store_mid e 49 x y t g 2 (l.map bv).toArray s p (fun j q=>?_) (by rw [d];exact ja) (one32 _) (n _ ?_ (yO _ _ _ _));·rw [d] at q;have f:=i.there k (2+j) Ws;rw [Xd] at f;exact f
 ·exact i.setRoot k m
theorem KJ {n:Nat}{v:VS (V n)}{bad:Bool}{kind:Int}{a:V n→Bool}{x:V n}{b:Bool}(h:jt v bad s kind a=(some x,b)):x∈v.kids∧a x=true∧qo n x=kind:=by
 unfold jt at h;split at h;·cases h
 ·split at h;·cases h
  ·rename_i y d;split at h
   ·rename_i hc;simp only [Prod.mk.injEq,Xt] at h;obtain⟨rfl,-⟩:=h;unfold vJ at d;split at d;·obtain⟨p,hp,rfl⟩:=ud.1 d;exact⟨Zj (List.mem_of_find?_eq_some hp),hc.2,hc.1⟩
    ·cases d
   ·cases h
theorem ftext_le {n:Nat}(v:VS (V n))(bad:Bool)(s:ByteArray)(a:Nat):(jC v bad s a).1.size≤a:=by
 unfold jC;cases h:jt v bad s 4 (fun x=>decide (((bw n x).size:Int)≤a)) with
 | mk r b=>
  cases r with
  | none=>exact XB
  | some x=>have:=(KJ h).2.1;simp only [Xa] at this;show (bw n x).size≤a;omega
theorem zcq {n:Nat}{v:VS (V (n+1))}{bad:Bool}(a:zP (n+2) v):zP (n+1) ((zbr v bad s).1.getD (Qw:VS (V n))):=by
 unfold zbr;cases h:jt v bad s 6 (fun _=>true) with
 | mk r b=>
  cases r with
  | none=>exact Ku
  | some x=>exact a.kid (KJ h).1
def Zx (s:ByteArray):Bool:=match xn s with | none=>false | some l=>decide (l.length=32)
structure RoleS where
 keys:List ByteArray
 thr:Int
def pairRepFact (n:Nat)(key:ByteArray)(v:V n):jd (zb []):=⟨fun u _ w=>∃ k m s p i c q j d,u = .agg #[.string key,.int .i64 k,.int .i64 m,.string s,.slice p i c,.slice q j d]∧Rep n (fun _=>True) w [.int .i64 k,.int .i64 m,.string s,.slice p i c,.slice q j d] v,
 fun _ _ _ _ ⟨k,m,s,p,i,c,q,j,d,h1,h2⟩ kk=>⟨k,m,s,p,i,c,q,j,d,h1,h2.k0 kk⟩⟩
def put2 (w:World)(g:Nat)(a b:Value):World:=(w.setCell ⟨g,0,none⟩ a).setCell ⟨g,1,none⟩ b
theorem ZL (w:World)(g:Nat)(a b:Value):zb [g] w (put2 w g a b):=((zb.refl [g] w).setCell (.inl Wz) _).setCell (.inl Wz) _
theorem put2_at {w:World}{g:Nat}{c0 c1:Value}{t:Nat}{f:Nat×Nat}(h:w.heap[g]? = some (.cells #[c0,c1] t f))(a b:Value):(put2 w g a b).heap[g]? = some (.cells #[a,b] t f):=by
 unfold put2;have e:=ze (i:=0) (v:=a) (d:=#[a,c1]) h rfl;exact ze (i:=1) (v:=b) (d:=#[a,b]) e rfl
end Go.Proofs.YtjccecajigmfkaaGreatDoor

/- Parts of one proof, merged: XHD. -/
import Derived.Test.YtjccecajigmfkaaGreatDoorSdAD
set_option linter.all false
set_option maxHeartbeats 12800000
set_option maxRecDepth 100000
namespace Go.Proofs.YtjccecajigmfkaaGreatDoor
open Go.Proofs.Tryz
open Go.RowKit
open Go.Maps (Keyed)
attribute [local go_sem] Oper.semAt_some
def k80 (root:List UInt8):yY:=⟨8,0,root⟩
def YX (i:Nat):List UInt8:=zaq [115] i 8
def kD (k:Nat):List UInt8:=((List.range k).map YX).flatten
def qK:List UInt8:=YX 0
theorem ZW (k:Nat):kD (k+1)=kD k++YX k:=by
 unfold kD;rw [VJ,Xc,X5];simp
theorem zbY {w:World}{a:Option Addr}{c:Nat}(I:zm w (.slice a 1 c) [115])(ah:kg w) : Calls prog 14 #[.slice a 1 c,.int .i64 8,.int .i64 0] w fun e w'=>(∃ sg sa sc la lc mb,e = .returned (.tuple #[.pointer (some ⟨sg,0,none⟩),.int .i64 0])∧qc w' sg (.slice sa 1 sc) (.slice la 1 lc) (k80 qK) (.map (some mb))∧zm w' (.slice sa 1 sc) [115]∧Slc w' 32 (.slice la 1 lc) 1 ((kD 1).map bv)∧jg prog w' 3 mb 0 (fun _=>none)∧w.heap.size≤mb)∧zb [] w w':=by
 have Jd:=qI ah;have HB:=qI I;have al:=@run_makeMap prog;clear I ah;have Gx:Hid (ZV.length=32):=qI rfl;go_enter func14,ntmps14;go_upto_region 2 with (refine Y4 Wk (.tmp 8) (.tmp 15) Wk (g:=w.heap.size) (k:=k80 ZV) (k0:=jJ) (zd rfl) Wk Gx.o Wk Wk ?_;intro w4 h4 ag;have Gr:=qI h4;have Gy:Hid (zb [] w w4):=qI (((zb.refl [] w).alloc _).trans ag (by intro i A;simp at A;subst A;exact .inr (XA)));clear h4 ag;simp only [Act.put]);have CM:Hid (zG w4 44 #[.agg (yV (k80 ZV))] (.bool true)):=qI (by have h1:=bV (k80 ZV) (by constructor <;> decide) w4;exact h1);have Jm:=qI (HB.o.k0 Gy.o);go_upto_region 4 with first
  | (refine yN Wk (.tmp 8) Wk Gr.o Gx.o Wk ?_)
  | (go_at_call 44;refine CM.o.mh ?_;rintro e w5 rfl Gn)
 have CL:=qI (bg _ _ _ (Jm.o.k0 Gn.o) Wo);go_upto_region 5 with (go_at_call 45;refine CL.o.mono ?_;rintro e w6 ⟨v6,rfl,J,aj⟩;obtain⟨sa,sc,rfl,-,-⟩:=J.1.form;have Je:=qI J.1;have Jn:=qI (fun g x=>(J.2 g x).1);have Gs:=qI aj;clear J aj);obtain⟨C,Gt⟩:=XE ((w6.alloc (.map #[] 0)).alloc (.cells (sgL (.slice sa 1 sc) (.slice none 0 0) jJ (.map (some w6.heap.size))).toArray 80));refine yZ Gt.o ?_;have Gz:Hid (zb [] w6 C):=qI (kA2 Gt.o);have Ja:Hid (qc C (w6.heap.size+1) (.slice sa 1 sc) (.slice none 0 0) jJ (.map (some w6.heap.size))):=qI (by rw [Gt.o];exact zd Wz);have Jf:Hid (jg prog C 3 w6.heap.size 0 (fun _=>none)):=qI (by rw [Gt.o];exact (mapIs_made _ _ _).k0 ((zb.refl [] _).alloc _));have Gk:Hid (zb [] w C):=qI (Gy.o.then (Gn.o.then (Gs.o.then Gz.o)));have Jb:Hid (zb [] w4 C):=qI (Gn.o.then (Gs.o.then Gz.o));have Jg:Hid (w6.heap.size+1<C.heap.size):=qI (lt_of_block Ja.o);have Jh:Hid (0 ∉ [w6.heap.size+1]):=qI (by have:=K9 Jd.o;have:=Gy.o.size;have:=Gn.o.size;have:=Gs.o.size;intro t;rw [XS] at t;omega);have Gp:Hid (w.heap.size<w6.heap.size):=qI (by have:=Gr.o.lt;have:=Gn.o.size;have:=Gs.o.size;omega);have Jo:=qI (Gr.o.k0 Jb.o);generalize Z:w6.heap.size=mb at Ja Jf Jg Jh Gp ⊢;have Jp:=qI Z;clear Z al;go_wp2_with fail;go_loopw [10,11,12,31] (fun _ _ _ aa wr=>∃ (k:Nat) (av:Option Addr) (D:Nat),aa = .int .i64 k∧k≤1∧qc wr (mb+1) (.slice sa 1 sc) (.slice av k D) jJ (.map (some mb))∧wr.ownsRow C.heap.size 49 32 (.slice av k D) k ((kD k).map bv)∧zb [mb+1] C wr) (fun _ _ _ aa _=>1-(intOf aa).toNat);case atStart=>exact⟨0,none,0,rfl,XB,Ja.o,World.ownsRow_nil _ _ _ _,Wd⟩
 case round=>
  obtain⟨k,av,D,rfl,hk,af,ad,ai⟩:=hrel;have Jc:=qI af;have Gu:=qI ad;have H:=qI ai;clear af ad ai;rcases Xr k 1 with hlt | hlt
  ·have ao:(k:Int)<1:=by omega
   have P:=qI hlt;have ae:Hid (zG wr 46 #[.slice a 1 c,.int .i64 k,.int .i64 8] (.tuple #[.agg ((YX k).map bv).toArray,.int .i64 0])):=qI (by
    have h1:zm wr (.slice a 1 c) [115]:=Slc.kept (Slc.k0 HB.o Gk.o) H.o (fun g x t=>by have:=Slc.lt HB.o x;have:=Gp.o;simp at t;omega);exact lamLeaf_any (seed:=[115]) h1 Wo k Ws ((Jd.o.k0 Gk.o).keptX H.o Jh.o))
   have O:Hid ((YX k).length=32):=qI (ko _ _ _);have Ji:Hid (kD (k+1)=kD k++YX k):=qI (ZW k);generalize YX k=xq at ae O Ji;clear hlt;go_upto_region 9 with first
    | (go_at_call 46;refine ae.o.mh ?_;rintro e U rfl Gv)
    | (refine zH Wk (.tmp 11) (.tmp 39) Wk (g:=U.heap.size) (l0:=ku zX 0) (zd rfl) (yp _ _) O.o Wk Wk ?_;intro y h9 F;have Jq:=qI h9;have N:Hid (zb [] wr y):=qI (Gv.o.then (((zb.refl [] U).alloc _).trans F (by intro i A;simp at A;subst A;exact .inr (XA))));clear h9 F;simp only [Act.put])
   have G:=qI (Jc.o.k0 N.o);have Gc:=qI (zk Gu.o N.o Wz);have c1:=G.o.c1;have f1:y.frozen? ⟨mb+1,1,none⟩=false:=zh G.o;go_upto_region 11 with fail;have ar:∀ cs:Array Value,(y.alloc (.cells cs 49)).cell? ⟨mb+1,1,none⟩=some (.slice av k D):=fun cs=>((zb.refl [] y).alloc _).cell c1 Wz;have Jj:Hid (y.drew.rangeAt U.heap.size 0 (xq.map bv)):=qI (show yr y.drew U.heap.size xq from Jq.o).range;obtain⟨z,Y⟩:=XE ((xq.map bv).toArray);have Gl:Hid (∀ (W:World),Slc (W.alloc (.cells z 49)) 32 (.slice (some ⟨W.heap.size,0,none⟩) 1 1) 1 (xq.map bv)):=qI (fun W=>by rw [Y.o];exact yE W (xq.map bv) 32 1 _ _ rfl (by simp [O.o]) Wo);have Gm:Hid (∀ u∈xq.map bv,u.oneCell'=true):=qI (qr _);rw [← Y.o];refine wp_region_any Wr ?_;change wpAny _ _ _ _ _ _ _ (World.drew _);refine wpAny_take (i:=0) (v:=?_) rfl Wr Wr Wr (fun _ _ _ h=>h) (Or.inl ⟨Wk,?_⟩) ?_;rotate_left;·intro w;exact zg
   refine wpAny_take (i:=1) (v:=?_) rfl Wr Wr Wr (fun _ _ _ h=>h) (Or.inl ⟨Wk,?_⟩) ?_;rotate_left;·intro w;exact zg
   refine wpAny_take (i:=2) (v:=?_) rfl Wr Wr Wr (fun _ _ _ h=>h) (Or.inl ⟨Wk,?_⟩) ?_;rotate_left;·intro w;exact zg
   refine wpAny_take (i:=3) (v:=?_) rfl Wr Wr Wr (fun _ _ _ h=>h) (Or.inl ⟨Wk,?_⟩) ?_;rotate_left;·intro w;exact zg
   refine wpAny_ready (rs:=[4,5]) Wr Wz (AllReady.cons (o:=_) rfl (fun K f=>?_) (AllReady.cons (o:=_) rfl (fun K f=>?_) AllReady.nil));go_simp;refine f _ _ ?_;clear f K;refine wpAny_ready (rs:=[5]) Wr Wz (AllReady.cons (o:=_) rfl (fun K f=>?_) AllReady.nil);refine zao Wk _ rfl (g:=U.heap.size) (of:=0) Jj.o O.o Wk Y.o ?_;try go_simp
   refine f _ _ ?_;clear f K;refine wpAny_ready (rs:=[6]) Wr Wz (AllReady.cons (o:=_) rfl (fun K f=>?_) AllReady.nil);refine YA Wk _ rfl (l:=xq) O.o Wk Y.o ?_;try go_simp
   refine f _ _ ?_;clear f K;refine wpAny_ready (rs:=[7]) Wr Wz (AllReady.cons (o:=_) rfl (fun K f=>?_) AllReady.nil);refine xK ty32 (base:=C.heap.size) (v:=.slice av k D) (n:=k) (m:=1) (news:=xq.map bv) (xs:=(kD k).map bv) (zk Gc.o ((zb.refl [] y).drew.alloc (.cells z 49)) Wz) (Gl.o y.drew) Gm.o Wo (by have:=P.o;simp only [maxLen];omega) (XC P.o) (by have:=H.o.size;have:=N.o.size;simp;omega) Wk _ _ Wk Wk Wk ?_;intro M c2 B j s E;have Gg:=qI j;have Q:=qI s;have q:=s.heap (((zb.refl [] y).drew.alloc (.cells z 49)).heap G.o Wz) (fun t=>xP (yw Gc.o (XD t)) (zQ G.o) Wo rfl);have u0:=za (o:=1) q rfl;have uf:=zh (o:=1) q;have Gh:=qI q;clear q j s E;try go_simp
   refine f _ _ ?_;clear f K;refine wpAny_take (i:=8) (v:=?_) rfl Wr Wr Wr (fun _ _ _ h=>h) (Or.inl ⟨Wk,?_⟩) ?_;rotate_left;·intro w;exact zg
   refine wpAny_take (i:=9) (v:=?_) rfl Wr Wr Wr (fun _ _ _ h=>h) (Or.inl ⟨Wk,?_⟩) ?_;rotate_left;·intro w;exact zg
   refine wpAny_ready (rs:=[10]) Wr Wz (AllReady.cons (o:=_) rfl (fun K f=>?_) AllReady.nil);go_simp;refine f _ _ ?_;clear f K;refine wpAny_done Wr ?_ _;rotate_left;refine zao Wk _ rfl (g:=U.heap.size) (of:=0) Jj.o O.o Wk Y.o ?_;try go_simp
   refine f _ _ ?_;clear f K;refine wpAny_ready (rs:=[4,6]) Wr Wz (AllReady.cons (o:=_) rfl (fun K f=>?_) (AllReady.cons (o:=_) rfl (fun K f=>?_) AllReady.nil));go_simp;refine f _ _ ?_;clear f K;refine wpAny_ready (rs:=[6]) Wr Wz (AllReady.cons (o:=_) rfl (fun K f=>?_) AllReady.nil);refine YA Wk _ rfl (l:=xq) O.o Wk Y.o ?_;try go_simp
   refine f _ _ ?_;clear f K;refine wpAny_ready (rs:=[7]) Wr Wz (AllReady.cons (o:=_) rfl (fun K f=>?_) AllReady.nil);refine xK ty32 (base:=C.heap.size) (v:=.slice av k D) (n:=k) (m:=1) (news:=xq.map bv) (xs:=(kD k).map bv) (zk Gc.o ((zb.refl [] y).drew.alloc (.cells z 49)) Wz) (Gl.o y.drew) Gm.o Wo (by have:=P.o;simp only [maxLen];omega) (XC P.o) (by have:=H.o.size;have:=N.o.size;simp;omega) Wk _ _ Wk Wk Wk ?_;intro M c2 B j s E;have Gg:=qI j;have Q:=qI s;have q:=s.heap (((zb.refl [] y).drew.alloc (.cells z 49)).heap G.o Wz) (fun t=>xP (yw Gc.o (XD t)) (zQ G.o) Wo rfl);have u0:=za (o:=1) q rfl;have uf:=zh (o:=1) q;have Gh:=qI q;clear q j s E;try go_simp
   refine f _ _ ?_;clear f K;refine wpAny_take (i:=8) (v:=?_) rfl Wr Wr Wr (fun _ _ _ h=>h) (Or.inl ⟨Wk,?_⟩) ?_;rotate_left;·intro w;exact zg
   refine wpAny_take (i:=9) (v:=?_) rfl Wr Wr Wr (fun _ _ _ h=>h) (Or.inl ⟨Wk,?_⟩) ?_;rotate_left;·intro w;exact zg
   refine wpAny_ready (rs:=[10]) Wr Wz (AllReady.cons (o:=_) rfl (fun K f=>?_) AllReady.nil);go_simp;refine f _ _ ?_;clear f K;refine wpAny_done Wr ?_ _;rotate_left;refine YA Wk _ rfl (l:=xq) O.o Wk Y.o ?_;try go_simp
   refine f _ _ ?_;clear f K;refine wpAny_ready (rs:=[4]) Wr Wz (AllReady.cons (o:=_) rfl (fun K f=>?_) AllReady.nil);go_simp;refine f _ _ ?_;clear f K;refine wpAny_ready (rs:=[7]) Wr Wz (AllReady.cons (o:=_) rfl (fun K f=>?_) AllReady.nil);refine xK ty32 (base:=C.heap.size) (v:=.slice av k D) (n:=k) (m:=1) (news:=xq.map bv) (xs:=(kD k).map bv) (zk Gc.o ((zb.refl [] y).drew.alloc (.cells z 49)) Wz) (Gl.o y.drew) Gm.o Wo (by have:=P.o;simp only [maxLen];omega) (XC P.o) (by have:=H.o.size;have:=N.o.size;simp;omega) Wk _ _ Wk Wk Wk ?_;intro M c2 B j s E;have Gg:=qI j;have Q:=qI s;have q:=s.heap (((zb.refl [] y).drew.alloc (.cells z 49)).heap G.o Wz) (fun t=>xP (yw Gc.o (XD t)) (zQ G.o) Wo rfl);have u0:=za (o:=1) q rfl;have uf:=zh (o:=1) q;have Gh:=qI q;clear q j s E;try go_simp
   refine f _ _ ?_;clear f K;refine wpAny_take (i:=8) (v:=?_) rfl Wr Wr Wr (fun _ _ _ h=>h) (Or.inl ⟨Wk,?_⟩) ?_;rotate_left;·intro w;exact zg
   refine wpAny_take (i:=9) (v:=?_) rfl Wr Wr Wr (fun _ _ _ h=>h) (Or.inl ⟨Wk,?_⟩) ?_;rotate_left;·intro w;exact zg
   refine wpAny_ready (rs:=[10]) Wr Wz (AllReady.cons (o:=_) rfl (fun K f=>?_) AllReady.nil);go_simp;refine f _ _ ?_;clear f K;refine wpAny_done Wr ?_ _;all_goals
    go_wp2_with fail;have ks:zb [mb+1] B (B.setCell ⟨mb+1,1,none⟩ (.slice (some ⟨M,0,none⟩) (k+1) c2)):=(zb.refl _ B).setCell (.inl Wz) _;have ak:=ze (i:=1) (v:=.slice (some ⟨M,0,none⟩) (k+1) c2) (d:=(sgL (.slice sa 1 sc) (.slice (some ⟨M,0,none⟩) (k+1) c2) jJ (.map (some mb))).toArray) Gh.o rfl;have an:(B.setCell ⟨mb+1,1,none⟩ (.slice (some ⟨M,0,none⟩) (k+1) c2)).ownsRow C.heap.size 49 32 (.slice (some ⟨M,0,none⟩) (k+1) c2) (k+1) ((kD (k+1)).map bv):=by
     rw [Ji.o,Xc];exact zk Gg.o ks (fun g x t=>by
      simp at t;subst t;exact xP (yw Gg.o x) (zQ Gh.o) Wo rfl)
    have am:=((((H.o.then N.o).then ((zb.refl [] y).drew.alloc (.cells z 49))).trans Q.o (fun i A=>.inr (Gc.o.lt i (XD A)).1))).setCell (p:=⟨mb+1,1,none⟩) (.inl Wz) (.slice (some ⟨M,0,none⟩) (k+1) c2);exact⟨⟨k+1,some ⟨M,0,none⟩,c2,by go_num,by have:=P.o;omega,ak,an,am⟩,by have:=P.o;simp [intOf];omega⟩
  ·obtain rfl:k=1:=by omega
   obtain⟨ga,rfl⟩:=own_zero Gu.o Wo;have Jr:Hid (kD 1=YX 0):=qI (by rw [ZW];rfl);have Jk:Hid (Slc wr 32 (.slice (some ⟨ga,0,none⟩) 1 D) 1 ((kD 1).map bv)):=qI (Slc.of_row Gu.o);have Js:Hid (zb [] w wr):=qI (Gk.o.trans H.o (by intro i A;simp at A;subst A;exact .inr (XC Gp.o)));have CR:Hid (zG wr 47 #[.slice (some ⟨ga,0,none⟩) 1 D] (.tuple #[.agg (qK.map bv).toArray,.int .i64 0])):=qI (by
    have h1:=Jk.o;rw [Jr.o] at h1;exact root1_any (ko _ _ _) h1)
   have Gw:Hid (qK.length=32):=qI (ko _ _ _);have Jt:Hid (yS wr w.heap.size (k80 ZV)):=qI (H.o.heap Jo.o (by have:=Gp.o;simp;omega));have c1:=Jc.o.c1;obtain⟨rq,Jl⟩:=XE qK;rw [← Jl.o] at CR Gw;go_upto_region 14 with first
    | (go_at_call 47;refine CR.o.mono ?_;rintro e U ⟨rfl,X⟩;have Gv:=qI X;have Ju:=qI (Jt.o.k0 X);clear X)
    | (refine JX Wk (.tmp 63) (.tmp 61) Wk (g:=w.heap.size) (b:=8) (h:=0) (r:=ZV) Ju.o Gx.o Gw.o Wk Wk ?_;intro y h9 F;have Jv:=qI h9;have N:=qI F;clear h9 F)
   have G:Hid (qc y (mb+1) (.slice sa 1 sc) (.slice (some ⟨ga,0,none⟩) 1 D) jJ (.map (some mb))):=qI (N.o.heap (Jc.o.k0 Gv.o) (by have:=Gp.o;simp;omega));clear c1;go_wp2_with first
    | (refine yN Wk (.tmp 8) Wk (k:=k80 rq) Jv.o Gw.o Wk ?_)
    | (refine zbU Wk (.tmp 67) (.tmp 65) Wk (g:=mb+1) (k:=k80 rq) (k0:=jJ) G.o Wk Gw.o Wk Wk ?_;intro B ab R;have Gq:=qI ab;have Q:=qI R;clear ab R)
   go_ret2;have L:zb [w.heap.size] wr y:=(Gv.o.mono Wz).trans' N.o;rw [← Jl.o];have ap:=Gp.o;have aq:=Jg.o;have Z:=Jp.o;refine⟨⟨mb+1,sa,sc,some ⟨ga,0,none⟩,D,mb,rfl,Gq.o,?_,?_,?_,Ws⟩,?_⟩
   ·have I:∀ g,yt (.slice sa [115].length sc)=some g→g≠mb+1∧g≠w.heap.size:=fun g x=>by have h1:=Slc.lt Je.o x;have h2:=Jn.o g x;have h3:=Gr.o.lt;have h4:=Gn.o.size;omega
    exact Slc.kept (Slc.kept (Slc.kept (Slc.k0 Je.o Gz.o) H.o (fun g x t=>(I g x).1 (by simpa using t))) L (fun g x t=>(I g x).2 (by simpa using t))) Q.o (fun g x t=>(I g x).1 (by simpa using t))
   ·have I:∀ g,yt (.slice (some ⟨ga,0,none⟩) 1 D)=some g→C.heap.size≤g:=fun g x=>(Gu.o.lt g (yL x)).1;exact (Jk.o.kept L (fun g x t=>by have:=I g x;simp at t;omega)).kept Q.o (fun g x t=>by have:=I g x;simp at t;omega)
   ·exact ((Jf.o.kept H.o Wz).kept L (by simp;omega)).kept Q.o Wz
   ·exact (Js.o.trans L (by intro i A;simp at A;subst A;exact .inr (XA))).trans Q.o (by intro i A;simp at A;subst A;exact .inr Ws)
end Go.Proofs.YtjccecajigmfkaaGreatDoor

/- Parts of one proof, merged: XHD. -/
import Derived.Test.YtjccecajigmfkaaGreatDoorSgAD
set_option linter.all false
set_option maxHeartbeats 12800000
set_option maxRecDepth 100000
namespace Go.Proofs.YtjccecajigmfkaaGreatDoor
open Go.Proofs.Tryz
open Go.RowKit
open Go.Maps (Keyed)
attribute [local go_sem] Oper.semAt_some
def k80 (root:List UInt8):yX:=⟨8,0,root⟩
def YX (i:Nat):List UInt8:=zad [115] i 8
def ke (k:Nat):List UInt8:=((List.range k).map YX).flatten
def qB:List UInt8:=YX 0
theorem ZA (k:Nat):ke (k+1)=ke k++YX k:=by
 unfold ke;rw [List.range_succ,List.map_append,List.flatten_append];simp
theorem zbH {w:World}{a:Option Addr}{c:Nat}(J:zp w (.slice a 1 c) [115])(af:qK w) : Calls prog 14 #[.slice a 1 c,.int .i64 8,.int .i64 0] w fun e w'=>(∃ sg sa sc la lc mb,e = .returned (.tuple #[.pointer (some ⟨sg,0,none⟩),.int .i64 0])∧xZ w' sg (.slice sa 1 sc) (.slice la 1 lc) (k80 qB) (.map (some mb))∧zp w' (.slice sa 1 sc) [115]∧Slc w' 32 (.slice la 1 lc) 1 ((ke 1).map bv)∧kO prog w' 3 mb 0 (fun _=>none)∧w.heap.size≤mb)∧zb [] w w':=by
 have Jd:=qI af;have HB:=qI J;have al:=@run_makeMap prog;clear J af;have Gx:Hid (ZO.length=32):=qI rfl;go_enter func14,ntmps14;go_upto_region 2 with (refine Yz Wk (.tmp 8) (.tmp 15) Wk (g:=w.heap.size) (k:=k80 ZO) (k0:=jx) (ze rfl) Wk Gx.o Wk Wk ?_;intro w4 h4 ag;have Gr:=qI h4;have Gy:Hid (zb [] w w4):=qI (((zb.refl [] w).alloc _).trans ag (by intro i A;simp at A;subst A;exact .inr (XA)));clear h4 ag;simp only [Act.put]);have CM:Hid (zJ w4 44 #[.agg (yU (k80 ZO))] (.bool true)):=qI (by have h1:=bw (k80 ZO) (by constructor <;> decide) w4;exact h1);have Jm:=qI (HB.o.k0 Gy.o);go_upto_region 4 with first
  | (refine yM Wk (.tmp 8) Wk Gr.o Gx.o Wk ?_)
  | (go_at_call 44;refine CM.o.mh ?_;rintro e w5 rfl Gn)
 have CL:=qI (bj _ _ _ (Jm.o.k0 Gn.o) Wo);go_upto_region 5 with (go_at_call 45;refine CL.o.mono ?_;rintro e H ⟨v6,rfl,L,ae⟩;obtain⟨sa,sc,rfl,-,-⟩:=L.1.form;have Je:=qI L.1;have Jn:=qI (fun g x=>(L.2 g x).1);have Gs:=qI ae;clear L ae);obtain⟨C,Gt⟩:=XE ((H.alloc (.map #[] 0)).alloc (.cells (sgL (.slice sa 1 sc) (.slice none 0 0) jx (.map (some H.heap.size))).toArray 80));refine xg Gt.o ?_;have Gz:Hid (zb [] H C):=qI (kA2 Gt.o);have Ja:Hid (xZ C (H.heap.size+1) (.slice sa 1 sc) (.slice none 0 0) jx (.map (some H.heap.size))):=qI (by rw [Gt.o];exact ze Wz);have Jf:Hid (kO prog C 3 H.heap.size 0 (fun _=>none)):=qI (by rw [Gt.o];exact (mapIs_made _ _ _).k0 ((zb.refl [] _).alloc _));have Gk:Hid (zb [] w C):=qI (Gy.o.then (Gn.o.then (Gs.o.then Gz.o)));have Jb:Hid (zb [] w4 C):=qI (Gn.o.then (Gs.o.then Gz.o));have Jg:Hid (H.heap.size+1<C.heap.size):=qI (lt_of_block Ja.o);have Jh:Hid (0 ∉ [H.heap.size+1]):=qI (by have:=KG Jd.o;have:=Gy.o.size;have:=Gn.o.size;have:=Gs.o.size;intro t;rw [List.mem_singleton] at t;omega);have Gp:Hid (w.heap.size<H.heap.size):=qI (by have:=Gr.o.lt;have:=Gn.o.size;have:=Gs.o.size;omega);have Jo:=qI (Gr.o.k0 Jb.o);generalize aa:H.heap.size=mb at Ja Jf Jg Jh Gp ⊢;have Jp:=qI aa;clear aa al;go_wp2_with fail;go_loopw [10,11,12,31] (fun _ _ _ Y wr=>∃ (k:Nat) (av:Option Addr) (D:Nat),Y = .int .i64 k∧k≤1∧xZ wr (mb+1) (.slice sa 1 sc) (.slice av k D) jx (.map (some mb))∧wr.ownsRow C.heap.size 49 32 (.slice av k D) k ((ke k).map bv)∧zb [mb+1] C wr) (fun _ _ _ Y _=>1-(intOf Y).toNat);case atStart=>exact⟨0,none,0,rfl,XB,Ja.o,World.ownsRow_nil _ _ _ _,Wd⟩
 case round=>
  obtain⟨k,av,D,rfl,hk,ad,ah,aj⟩:=hrel;have Jc:=qI ad;have Gu:=qI ah;have I:=qI aj;clear ad ah aj;rcases Nat.lt_or_ge k 1 with hlt | hlt
  ·have ao:(k:Int)<1:=by omega
   have P:=qI hlt;have ab:Hid (zJ wr 46 #[.slice a 1 c,.int .i64 k,.int .i64 8] (.tuple #[.agg ((YX k).map bv).toArray,.int .i64 0])):=qI (by
    have h1:zp wr (.slice a 1 c) [115]:=Slc.kept (Slc.k0 HB.o Gk.o) I.o (fun g x t=>by have:=Slc.lt HB.o x;have:=Gp.o;simp at t;omega);exact lamLeaf_any (seed:=[115]) h1 Wo k Ws ((Jd.o.k0 Gk.o).keptX I.o Jh.o))
   have Q:Hid ((YX k).length=32):=qI (qN _ _ _);have Ji:Hid (ke (k+1)=ke k++YX k):=qI (ZA k);generalize YX k=xq at ab Q Ji;clear hlt;go_upto_region 9 with first
    | (go_at_call 46;refine ab.o.mh ?_;rintro e w8 rfl Gv)
    | (refine zL Wk (.tmp 11) (.tmp 39) Wk (g:=w8.heap.size) (l0:=qS ya 0) (ze rfl) (yu _ _) Q.o Wk Wk ?_;intro y h9 E;have Jq:=qI h9;have O:Hid (zb [] wr y):=qI (Gv.o.then (((zb.refl [] w8).alloc _).trans E (by intro i A;simp at A;subst A;exact .inr (XA))));clear h9 E;simp only [Act.put])
   have G:=qI (Jc.o.k0 O.o);have Z:=qI (zk Gu.o O.o Wz);have c1:=G.o.c1;have f1:y.frozen? ⟨mb+1,1,none⟩=false:=zh G.o;go_upto_region 11 with fail;have ap:∀ cs:Array Value,(y.alloc (.cells cs 49)).cell? ⟨mb+1,1,none⟩=some (.slice av k D):=fun cs=>((zb.refl [] y).alloc _).cell c1 Wz;have Jj:Hid (y.drew.rangeAt w8.heap.size 0 (xq.map bv)):=qI (show yy y.drew w8.heap.size xq from Jq.o).range;obtain⟨z,Gd⟩:=XE ((xq.map bv).toArray);have Gl:Hid (∀ (W:World),Slc (W.alloc (.cells z 49)) 32 (.slice (some ⟨W.heap.size,0,none⟩) 1 1) 1 (xq.map bv)):=qI (fun W=>by rw [Gd.o];exact yv W (xq.map bv) 32 1 _ _ rfl (by simp [Q.o]) Wo);have Gm:Hid (∀ u∈xq.map bv,u.oneCell'=true):=qI (qE _);rw [← Gd.o];refine wp_region_any Wr ?_;change wpAny _ _ _ _ _ _ _ (World.drew _);refine wpAny_take (i:=0) (v:=?_) rfl Wr Wr Wr (fun _ _ _ h=>h) (Or.inl ⟨Wk,?_⟩) ?_;rotate_left;·intro w;exact zg
   refine wpAny_take (i:=1) (v:=?_) rfl Wr Wr Wr (fun _ _ _ h=>h) (Or.inl ⟨Wk,?_⟩) ?_;rotate_left;·intro w;exact zg
   refine wpAny_take (i:=2) (v:=?_) rfl Wr Wr Wr (fun _ _ _ h=>h) (Or.inl ⟨Wk,?_⟩) ?_;rotate_left;·intro w;exact zg
   refine wpAny_take (i:=3) (v:=?_) rfl Wr Wr Wr (fun _ _ _ h=>h) (Or.inl ⟨Wk,?_⟩) ?_;rotate_left;·intro w;exact zg
   refine wpAny_ready (rs:=[4,5]) Wr Wz (AllReady.cons (o:=_) rfl (fun K f=>?_) (AllReady.cons (o:=_) rfl (fun K f=>?_) AllReady.nil));go_simp;refine f _ _ ?_;clear f K;refine wpAny_ready (rs:=[5]) Wr Wz (AllReady.cons (o:=_) rfl (fun K f=>?_) AllReady.nil);refine zah Wk _ rfl (g:=w8.heap.size) (of:=0) Jj.o Q.o Wk Gd.o ?_;try go_simp
   refine f _ _ ?_;clear f K;refine wpAny_ready (rs:=[6]) Wr Wz (AllReady.cons (o:=_) rfl (fun K f=>?_) AllReady.nil);refine ZP Wk _ rfl (l:=xq) Q.o Wk Gd.o ?_;try go_simp
   refine f _ _ ?_;clear f K;refine wpAny_ready (rs:=[7]) Wr Wz (AllReady.cons (o:=_) rfl (fun K f=>?_) AllReady.nil);refine qc ty32 (base:=C.heap.size) (v:=.slice av k D) (n:=k) (m:=1) (news:=xq.map bv) (xs:=(ke k).map bv) (zk Z.o ((zb.refl [] y).drew.alloc (.cells z 49)) Wz) (Gl.o y.drew) Gm.o Wo (by have:=P.o;simp only [maxLen];omega) (XC P.o) (by have:=I.o.size;have:=O.o.size;simp;omega) Wk _ _ Wk Wk Wk ?_;intro M c2 B j s F;have Gg:=qI j;have U:=qI s;have q:=s.heap (((zb.refl [] y).drew.alloc (.cells z 49)).heap G.o Wz) (fun t=>xM (yA Z.o (XD t)) (zU G.o) Wo rfl);have u0:=za (o:=1) q rfl;have uf:=zh (o:=1) q;have Gh:=qI q;clear q j s F;try go_simp
   refine f _ _ ?_;clear f K;refine wpAny_take (i:=8) (v:=?_) rfl Wr Wr Wr (fun _ _ _ h=>h) (Or.inl ⟨Wk,?_⟩) ?_;rotate_left;·intro w;exact zg
   refine wpAny_take (i:=9) (v:=?_) rfl Wr Wr Wr (fun _ _ _ h=>h) (Or.inl ⟨Wk,?_⟩) ?_;rotate_left;·intro w;exact zg
   refine wpAny_ready (rs:=[10]) Wr Wz (AllReady.cons (o:=_) rfl (fun K f=>?_) AllReady.nil);go_simp;refine f _ _ ?_;clear f K;refine wpAny_done Wr ?_ _;rotate_left;refine zah Wk _ rfl (g:=w8.heap.size) (of:=0) Jj.o Q.o Wk Gd.o ?_;try go_simp
   refine f _ _ ?_;clear f K;refine wpAny_ready (rs:=[4,6]) Wr Wz (AllReady.cons (o:=_) rfl (fun K f=>?_) (AllReady.cons (o:=_) rfl (fun K f=>?_) AllReady.nil));go_simp;refine f _ _ ?_;clear f K;refine wpAny_ready (rs:=[6]) Wr Wz (AllReady.cons (o:=_) rfl (fun K f=>?_) AllReady.nil);refine ZP Wk _ rfl (l:=xq) Q.o Wk Gd.o ?_;try go_simp
   refine f _ _ ?_;clear f K;refine wpAny_ready (rs:=[7]) Wr Wz (AllReady.cons (o:=_) rfl (fun K f=>?_) AllReady.nil);refine qc ty32 (base:=C.heap.size) (v:=.slice av k D) (n:=k) (m:=1) (news:=xq.map bv) (xs:=(ke k).map bv) (zk Z.o ((zb.refl [] y).drew.alloc (.cells z 49)) Wz) (Gl.o y.drew) Gm.o Wo (by have:=P.o;simp only [maxLen];omega) (XC P.o) (by have:=I.o.size;have:=O.o.size;simp;omega) Wk _ _ Wk Wk Wk ?_;intro M c2 B j s F;have Gg:=qI j;have U:=qI s;have q:=s.heap (((zb.refl [] y).drew.alloc (.cells z 49)).heap G.o Wz) (fun t=>xM (yA Z.o (XD t)) (zU G.o) Wo rfl);have u0:=za (o:=1) q rfl;have uf:=zh (o:=1) q;have Gh:=qI q;clear q j s F;try go_simp
   refine f _ _ ?_;clear f K;refine wpAny_take (i:=8) (v:=?_) rfl Wr Wr Wr (fun _ _ _ h=>h) (Or.inl ⟨Wk,?_⟩) ?_;rotate_left;·intro w;exact zg
   refine wpAny_take (i:=9) (v:=?_) rfl Wr Wr Wr (fun _ _ _ h=>h) (Or.inl ⟨Wk,?_⟩) ?_;rotate_left;·intro w;exact zg
   refine wpAny_ready (rs:=[10]) Wr Wz (AllReady.cons (o:=_) rfl (fun K f=>?_) AllReady.nil);go_simp;refine f _ _ ?_;clear f K;refine wpAny_done Wr ?_ _;rotate_left;refine ZP Wk _ rfl (l:=xq) Q.o Wk Gd.o ?_;try go_simp
   refine f _ _ ?_;clear f K;refine wpAny_ready (rs:=[4]) Wr Wz (AllReady.cons (o:=_) rfl (fun K f=>?_) AllReady.nil);go_simp;refine f _ _ ?_;clear f K;refine wpAny_ready (rs:=[7]) Wr Wz (AllReady.cons (o:=_) rfl (fun K f=>?_) AllReady.nil);refine qc ty32 (base:=C.heap.size) (v:=.slice av k D) (n:=k) (m:=1) (news:=xq.map bv) (xs:=(ke k).map bv) (zk Z.o ((zb.refl [] y).drew.alloc (.cells z 49)) Wz) (Gl.o y.drew) Gm.o Wo (by have:=P.o;simp only [maxLen];omega) (XC P.o) (by have:=I.o.size;have:=O.o.size;simp;omega) Wk _ _ Wk Wk Wk ?_;intro M c2 B j s F;have Gg:=qI j;have U:=qI s;have q:=s.heap (((zb.refl [] y).drew.alloc (.cells z 49)).heap G.o Wz) (fun t=>xM (yA Z.o (XD t)) (zU G.o) Wo rfl);have u0:=za (o:=1) q rfl;have uf:=zh (o:=1) q;have Gh:=qI q;clear q j s F;try go_simp
   refine f _ _ ?_;clear f K;refine wpAny_take (i:=8) (v:=?_) rfl Wr Wr Wr (fun _ _ _ h=>h) (Or.inl ⟨Wk,?_⟩) ?_;rotate_left;·intro w;exact zg
   refine wpAny_take (i:=9) (v:=?_) rfl Wr Wr Wr (fun _ _ _ h=>h) (Or.inl ⟨Wk,?_⟩) ?_;rotate_left;·intro w;exact zg
   refine wpAny_ready (rs:=[10]) Wr Wz (AllReady.cons (o:=_) rfl (fun K f=>?_) AllReady.nil);go_simp;refine f _ _ ?_;clear f K;refine wpAny_done Wr ?_ _;all_goals
    go_wp2_with fail;have ks:zb [mb+1] B (B.setCell ⟨mb+1,1,none⟩ (.slice (some ⟨M,0,none⟩) (k+1) c2)):=(zb.refl _ B).setCell (.inl Wz) _;have an:=zd (i:=1) (v:=.slice (some ⟨M,0,none⟩) (k+1) c2) (d:=(sgL (.slice sa 1 sc) (.slice (some ⟨M,0,none⟩) (k+1) c2) jx (.map (some mb))).toArray) Gh.o rfl;have am:(B.setCell ⟨mb+1,1,none⟩ (.slice (some ⟨M,0,none⟩) (k+1) c2)).ownsRow C.heap.size 49 32 (.slice (some ⟨M,0,none⟩) (k+1) c2) (k+1) ((ke (k+1)).map bv):=by
     rw [Ji.o,List.map_append];exact zk Gg.o ks (fun g x t=>by
      simp at t;subst t;exact xM (yA Gg.o x) (zU Gh.o) Wo rfl)
    have ak:=((((I.o.then O.o).then ((zb.refl [] y).drew.alloc (.cells z 49))).trans U.o (fun i A=>.inr (Z.o.lt i (XD A)).1))).setCell (p:=⟨mb+1,1,none⟩) (.inl Wz) (.slice (some ⟨M,0,none⟩) (k+1) c2);exact⟨⟨k+1,some ⟨M,0,none⟩,c2,by go_num,by have:=P.o;omega,an,am,ak⟩,by have:=P.o;simp [intOf];omega⟩
  ·obtain rfl:k=1:=by omega
   obtain⟨ga,rfl⟩:=own_zero Gu.o Wo;have Jr:Hid (ke 1=YX 0):=qI (by rw [ZA];rfl);have Jk:Hid (Slc wr 32 (.slice (some ⟨ga,0,none⟩) 1 D) 1 ((ke 1).map bv)):=qI (Slc.of_row Gu.o);have Js:Hid (zb [] w wr):=qI (Gk.o.trans I.o (by intro i A;simp at A;subst A;exact .inr (XC Gp.o)));have CR:Hid (zJ wr 47 #[.slice (some ⟨ga,0,none⟩) 1 D] (.tuple #[.agg (qB.map bv).toArray,.int .i64 0])):=qI (by
    have h1:=Jk.o;rw [Jr.o] at h1;exact root1_any (qN _ _ _) h1)
   have Gw:Hid (qB.length=32):=qI (qN _ _ _);have Jt:Hid (yR wr w.heap.size (k80 ZO)):=qI (I.o.heap Jo.o (by have:=Gp.o;simp;omega));have c1:=Jc.o.c1;obtain⟨rq,Jl⟩:=XE qB;rw [← Jl.o] at CR Gw;go_upto_region 14 with first
    | (go_at_call 47;refine CR.o.mono ?_;rintro e w8 ⟨rfl,X⟩;have Gv:=qI X;have Ju:=qI (Jt.o.k0 X);clear X)
    | (refine KZ Wk (.tmp 63) (.tmp 61) Wk (g:=w.heap.size) (b:=8) (h:=0) (r:=ZO) Ju.o Gx.o Gw.o Wk Wk ?_;intro y h9 E;have Jv:=qI h9;have O:=qI E;clear h9 E)
   have G:Hid (xZ y (mb+1) (.slice sa 1 sc) (.slice (some ⟨ga,0,none⟩) 1 D) jx (.map (some mb))):=qI (O.o.heap (Jc.o.k0 Gv.o) (by have:=Gp.o;simp;omega));clear c1;go_wp2_with first
    | (refine yM Wk (.tmp 8) Wk (k:=k80 rq) Jv.o Gw.o Wk ?_)
    | (refine zaI Wk (.tmp 67) (.tmp 65) Wk (g:=mb+1) (k:=k80 rq) (k0:=jx) G.o Wk Gw.o Wk Wk ?_;intro B ai R;have Gq:=qI ai;have U:=qI R;clear ai R)
   go_ret2;have N:zb [w.heap.size] wr y:=(Gv.o.mono Wz).trans' O.o;rw [← Jl.o];have aq:=Gp.o;have ar:=Jg.o;have aa:=Jp.o;refine⟨⟨mb+1,sa,sc,some ⟨ga,0,none⟩,D,mb,rfl,Gq.o,?_,?_,?_,Ws⟩,?_⟩
   ·have J:∀ g,yx (.slice sa [115].length sc)=some g→g≠mb+1∧g≠w.heap.size:=fun g x=>by have h1:=Slc.lt Je.o x;have h2:=Jn.o g x;have h3:=Gr.o.lt;have h4:=Gn.o.size;omega
    exact Slc.kept (Slc.kept (Slc.kept (Slc.k0 Je.o Gz.o) I.o (fun g x t=>(J g x).1 (by simpa using t))) N (fun g x t=>(J g x).2 (by simpa using t))) U.o (fun g x t=>(J g x).1 (by simpa using t))
   ·have J:∀ g,yx (.slice (some ⟨ga,0,none⟩) 1 D)=some g→C.heap.size≤g:=fun g x=>(Gu.o.lt g (yI x)).1;exact (Jk.o.kept N (fun g x t=>by have:=J g x;simp at t;omega)).kept U.o (fun g x t=>by have:=J g x;simp at t;omega)
   ·exact ((Jf.o.kept I.o Wz).kept N (by simp;omega)).kept U.o Wz
   ·exact (Js.o.trans N (by intro i A;simp at A;subst A;exact .inr (XA))).trans U.o (by intro i A;simp at A;subst A;exact .inr Ws)
end Go.Proofs.YtjccecajigmfkaaGreatDoor

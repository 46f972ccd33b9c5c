/- Parts of one proof, merged: XBH XBI XBJ XBK. -/
import Derived.Test.YtibnfbglanpoiaaGreatDoorQeAC
set_option linter.all false
set_option maxHeartbeats 12800000
set_option maxRecDepth 100000
namespace Go.Proofs.YtibnfbglanpoiaaGreatDoor
open Go.Proofs.Tryz
open Go.RowKit
attribute [local go_sem] Oper.semAt_some
theorem chunk2_in (n l Bs Bn:Nat) (hn:1≤n) (b off cap:Nat) (hcap:2≤cap) (hcap2:cap≤maxLen) (J Jx:List (Fin 1)→World→Prop) (hJd:∀ pre W q,J pre W→J pre (World.drewN W q))
  (hY:∀ pre x W,J pre W→pre.length<1→YieldAt Fence.wide (n-1) Tryz.prog l #[.slice (some ⟨b,off,none⟩) 2 2] W fun e W'=>
   (e = .returned (.bool true)∧J (pre++[x]) W'∧KpB Bs Bn W W')∨(e = .returned (.bool false)∧Jx (pre++[x]) W'))
  (W:World) (hBs:W.cell? ⟨Bs,0,none⟩=some (.slice (some ⟨b,off,none⟩) 2 cap)) (hBn:W.cell? ⟨Bn,0,none⟩=some (.int .i64 2)) (h0:J [] W) :
  CallsIn Fence.wide n Tryz.prog 181 #[.func (.yield l) #[] #[],.pointer (some ⟨Bs,0,none⟩),.pointer (some ⟨Bn,0,none⟩)] W fun e W'=>(∃ v,e = .returned v) ∧
   ((∃ ys,ys=List.finRange 1∧J ys W')∨(∃ pre,True∧Jx pre W')):=by
 refine callsIn_of_wp func181 rfl trivial ?_ rfl
 simp only [ntmps181,List.size_toArray,List.length_cons,List.length_nil,Nat.reduceAdd,Nat.reduceSub,Array.replicate_succ,Array.replicate_zero,List.push_toArray,List.append_toArray,List.nil_append,List.cons_append]
 gi_wp2
 gi_loopw [4,5] (fun i _ wr=>∃ k:Nat,k≤1∧i = .int .i64 (2*k:Nat)∧J (jg 1 k) wr∧wr.cell? ⟨Bs,0,none⟩=some (.slice (some ⟨b,off,none⟩) 2 cap)∧wr.cell? ⟨Bn,0,none⟩=some (.int .i64 2))
  (fun i _ _=>2-(intOf i).toNat)
 case atStart=>exact⟨0,Nat.zero_le _,Wz,h0,hBs,hBn⟩
 case round=>
  obtain⟨k,hk,rfl,hJs,c0,c1⟩:=hrel
  by_cases hlt:k<1
  ·obtain rfl:k=0:=by omega
   have Mk:=qI hJs
   have Gu:=qI c0
   have Jt:Hid (∀ q,YieldAt Fence.wide (n-1) Tryz.prog l #[.slice (some ⟨b,off,none⟩) 2 2] (World.drewN wr q) fun e W'=>(e = .returned (.bool true)∧J (jg 1 1) W'∧KpB Bs Bn (World.drewN wr q) W')∨(e = .returned (.bool false)∧Jx (jg 1 1) W')):=qI (fun q=>by
    have h1:=hY _ ⟨0,hlt⟩ _ (hJd _ _ q hJs) (by rw [zab hk];exact hlt)
    rw [← QT hlt] at h1
    exact h1)
   clear hJs hlt hk hY
   have hp2:(2:Int)≤(cap:Int):=Ws
   have hp3:¬ cap=0:=Ws
   have hcm:(cap:Int)≤9223372036854775807:=by have:=hcap2;simp only [maxLen] at this;omega
   simp only [Nat.mul_zero,Int.ofNat_zero]
   gi_wp2
   refine wpIn_wide.2 ?_
   go_quiet (fail)
   obtain⟨fn,tmps,assign,body,hy,hR⟩:=Jt.o nq
   gi_wp2
   refine hR.mono ?_
   rintro e W3 (⟨rfl,hJ3,hk3⟩ | ⟨rfl,hJx3⟩)
   ·have c1':=hk3.c1.trans (show (World.drewN wr nq).cell? ⟨Bn,0,none⟩=_ from c1)
    have Gv:=qI (hk3.c0.trans (show (World.drewN wr nq).cell? ⟨Bs,0,none⟩=_ from Gu.o))
    gi_wp2
    go_roundw
    case rel=>exact⟨1,Nat.le_refl _,by go_num,hJ3,Gv.o,c1'⟩
    case measure=>simp [intOf]
   ·gi_wp2
    refine bodyPost_ret (results_none rfl _ _ _) rfl ?_
    exact⟨⟨_,rfl⟩,.inr ⟨_,trivial,hJx3⟩⟩
  ·obtain rfl:k=1:=by omega
   rw [KJ] at hJs
   simp only [Nat.mul_one]
   gi_wp2
   go_end0
   exact⟨⟨_,rfl⟩,.inl ⟨_,rfl,hJs⟩⟩
theorem chunk2_stops (n Bs Bn:Nat) (hn:1≤n) (b off cap:Nat) (hcap:2≤cap) (hcap2:cap≤maxLen) (w:World) (hBs:w.cell? ⟨Bs,0,none⟩=some (.slice (some ⟨b,off,none⟩) 2 cap)) (hBn:w.cell? ⟨Bn,0,none⟩=some (.int .i64 2)) :
  SeqStopsK Fence.wide n Tryz.prog 181 #[.pointer (some ⟨Bs,0,none⟩),.pointer (some ⟨Bn,0,none⟩)] (fun _:Fin 1=>#[.slice (some ⟨b,off,none⟩) 2 2]) (KpB Bs Bn) (fun ys=>ys=List.finRange 1) (fun _=>True) 1 w:=fun l J Jx W hW hJ _ hY h0=>
 chunk2_in n l Bs Bn hn b off cap hcap hcap2 J Jx (fun pre W q h=>hJ pre W _ none h (QW W q) (fun r e=>nomatch e)) hY W
  ((hW.cell (p:=⟨Bs,0,none⟩) (World.block_lt_of_cell? w _ hBs)).trans hBs) ((hW.cell (p:=⟨Bn,0,none⟩) (World.block_lt_of_cell? w _ hBn)).trans hBn) h0
theorem chunk2_any (a:Option Addr) (cap:Nat) (w:World) :
  Calls Tryz.prog 144 #[.slice a 2 cap,.int .i64 2] w fun e w'=>e = .returned (.func (.func 181) #[] #[.pointer (some ⟨w.heap.size,0,none⟩),.pointer (some ⟨w.heap.size+1,0,none⟩)])∧(w.alloc (.cells #[.slice a 2 cap] 73)).alloc (.cells #[.int .i64 2] 3)=w':=by
 go_enter func144,ntmps144
 go_wp2_with fail
 go_ret
 exact⟨rfl,rfl⟩
structure KR (W:World) (g:Nat) (w:World) (a:Option Addr) (c:Nat) (ps:List (List UInt8)):Prop where
 kept:zb [g] W w
 box:w.heap[g]? = some (.cells #[.slice a ps.length c] 73 (0,0))
 row:w.ownsRow W.heap.size 45 32 (.slice a ps.length c) ps.length (ps.flatten.map bv)
theorem KR.kept0 {W w w':World}{g:Nat}{a:Option Addr}{c:Nat}{ps:List (List UInt8)}(h:KR W g w a c ps) (k:zb [] w w'):KR W g w' a c ps:=
 ⟨h.kept.then k,k.heap h.box Wz,zo h.row k Wz⟩
theorem KR.push {W w w':World}{g:Nat}{a:Option Addr}{c:Nat}{ps:List (List UInt8)}(h:KR W g w a c ps) {x:List UInt8}{a5:Option Addr}{c5:Nat}
  (hown:w'.ownsRow W.heap.size 45 32 (.slice a5 (ps.length+1) c5) (ps.length+1) (ps.flatten.map bv++x.map bv)) (hk:zb (Value.slice a ps.length c).ownBlock.toList w w') :
  w'.cell? ⟨g,0,none⟩=some (.slice a ps.length c)∧w'.frozen? ⟨g,0,none⟩=false∧KR W g (w'.setCell ⟨g,0,none⟩ (.slice a5 (ps.length+1) c5)) a5 c5 (ps++[x]):=by
 have hng:g ∉ (Value.slice a ps.length c).ownBlock.toList:=fun hx=>xt (yp h.row (Option.mem_toList.1 hx)) (zM h.box) Wo rfl
 have hb8:=hk.heap h.box hng
 have hst:zb [g] w' (w'.setCell ⟨g,0,none⟩ (.slice a5 (ps.length+1) c5)):=Wd.setCell (.inl Wz) _
 have hel:(ps++[x]).length=ps.length+1:=Wz
 have hef:((ps++[x]).flatten).map bv=ps.flatten.map bv++x.map bv:=Wz
 refine⟨za hb8 rfl,zh hb8,⟨?_,?_,?_⟩⟩
 ·exact ((h.kept.trans hk (fun i hi=>.inr (h.row.lt i (Option.mem_toList.1 hi)).1))).setCell (.inl Wz) _
 ·rw [hel];exact zg hb8 rfl
 ·rw [hel,hef]
  exact zo hown hst (fun b e hx=>by
   simp at hx;subst hx
   exact xt (yp hown e) (zM hb8) Wo rfl)
theorem KR.grown {W w w':World}{g:Nat}{a:Option Addr}{c:Nat}{ps:List (List UInt8)}{row:Option Nat}(h:KR W g w a c ps) (hg:w.grownBy w' row) (hr:∀ k,row=some k→W.heap.size≤k∧∃ ob:Obj,w.heap[k]? = some ob∧ob.isCells=false):KR W g w' a c ps:=by
 have hk:zb row.toList w w':=(zb.refl _ w).grown hg (fun k e=>.inl (by simp [e]))
 have hx:∀ k c t f,w.heap[k]? = some (.cells c t f)→k ∉ row.toList:=fun k c t f hc hm=>by
  obtain⟨ob,h1,h2⟩:=(hr k (Option.mem_toList.1 hm)).2
  rw [hc] at h1
  cases h1
  cases h2
 refine⟨h.kept.trans hk (fun i hi=>.inr (hr i (Option.mem_toList.1 hi)).1),hk.heap h.box (hx _ _ _ _ h.box),zo h.row hk (fun b e=>?_)⟩
 obtain⟨c,t,f,h1⟩:=kD h.row e
 exact hx _ _ _ _ h1
structure UpR (nd:List UInt8) (W0:World) (gs:Nat) (pre:List (Fin 1)) (W:World):Prop where
 val:∃ a c,KR W0 gs W a c (pre.map fun _=>nd)
 box0:∃ c f,W.heap[gs+1]? = some (.cells c 73 f)
 box1:∃ c f,W.heap[gs+2]? = some (.cells c 3 f)
theorem up_any {w:World}{bk off cap:Nat}{x0 x1:List UInt8}(h0:x0.length=32) (h1:x1.length=32) (hc:2≤cap) (hcm:cap≤maxLen) (hr0:w.rangeAt bk off (x0.map bv)) (hr1:w.rangeAt bk (off+32) (x1.map bv)) (hks:xN w) :
  Calls Tryz.prog 107 #[.slice (some ⟨bk,off,none⟩) 2 cap] w fun e w'=>(∃ a c,e = .returned (.slice a 1 c)∧Slc w' 32 (.slice a 1 c) 1 ((yO x0 x1).map bv)∧∀ g,zW (.slice a 1 c)=some g→w.heap.size≤g)∧zb [] w w':=by
 obtain⟨W1,Gc⟩:∃ W1,Hid (W1=w.alloc (.cells #[.slice none 0 0] 73)):=⟨_,qI rfl⟩
 have Gd:Hid (zb [] w W1):=qI (kA1 Gc.o)
 have Gs:Hid (W1.heap[w.heap.size]? = some (.cells #[.slice none 0 0] 73 (0,0))):=qI (by rw [Gc.o];exact zd rfl)
 have hS1:W1.heap.size=w.heap.size+1:=by rw [Gc.o];simp
 have CH:=qI (chunk2_any (some ⟨bk,off,none⟩) cap W1)
 have Gk:=qI h0
 have Gl:=qI h1
 have HC:=qI (And.intro hc hcm)
 have Gm:Hid (W1.rangeAt bk off (x0.map bv)):=qI (fun j v hv=>Gd.o.cell (hr0 j v hv) Wz)
 have Ju:Hid (W1.rangeAt bk (off+32) (x1.map bv)):=qI (fun j v hv=>Gd.o.cell (hr1 j v hv) Wz)
 have Gw:=qI (hks.kept0 Gd.o)
 have Jv:Hid (0 ∉ [w.heap.size]):=qI (by have:=ZX hks;simp;omega)
 have Jm:Hid (bk<w.heap.size):=qI (World.block_lt_of_cell? w _ (hr0 0 (bv x0[0]) (by simp [h0])))
 have Ga:Hid ((yO x0 x1).length=32):=qI (yP _ _)
 have CN:Hid (∀ w2,zb [w.heap.size] W1 w2→Calls Tryz.prog 145 #[.agg (x0.map bv).toArray,.agg (x1.map bv).toArray] w2 fun e w'=>e = .returned (.agg ((yO x0 x1).map bv).toArray)∧zb [] w2 w'):=qI (fun w2 hk=>KY w2 x0 x1 Gk.o Gl.o (Gw.o.keptX hk Jv.o))
 clear h0 h1 hc hcm hr0 hr1 hks
 generalize yO x0 x1=nd at Ga CN ⊢
 refine callsIn_wide.1 (callsIn_of_wp_marks (F:=Fence.wide) (n:=3) func107 rfl trivial ?_ rfl)
 refine wpIn_wide.2 ?_
 simp only [ntmps107,List.size_toArray,List.length_cons,List.length_nil,Nat.reduceAdd,Nat.reduceSub,Array.replicate_succ,Array.replicate_zero,List.push_toArray,List.append_toArray,List.nil_append,List.cons_append]
 go_upto_region 2 with fail
 rw [← Gc.o]
 go_wp2_with (go_at_call 144;refine CH.o.mono ?_;rintro e w' ⟨rfl,rfl⟩)
 obtain⟨W4,Gn⟩:∃ W4,Hid (W4=(W1.alloc (.cells #[.slice (some ⟨bk,off,none⟩) 2 cap] 73)).alloc (.cells #[.int .i64 2] 3)):=⟨_,qI rfl⟩
 have Gh:Hid (zb [] W1 W4):=qI (kA2 Gn.o)
 have hS4:W4.heap.size=w.heap.size+3:=by rw [Gn.o];simp;omega
 have Jn:Hid (W4.heap[w.heap.size+1]? = some (.cells #[.slice (some ⟨bk,off,none⟩) 2 cap] 73 (0,0))):=qI (by
  rw [Gn.o]
  exact ((zb.refl [] _).alloc _).heap (zd Ws) Wz)
 have Jo:Hid (W4.heap[w.heap.size+2]? = some (.cells #[.int .i64 2] 3 (0,0))):=qI (by
  rw [Gn.o]
  exact zd (by rw [World.size_alloc];omega))
 have Jw:Hid (KR W1 w.heap.size W4 none 0 []):=qI ⟨Gh.o.mono Wz,Gh.o.heap Gs.o Wz,World.ownsRow_nil _ _ _ _⟩
 rw [← Gn.o]
 refine (wpIn_wide (n:=3)).1 ?_
 refine wpIn_rangeFunc_ownG (F:=Fence.wide) (n:=3) rfl Wo (gf:=181) (lb:=#[.pointer (some ⟨w.heap.size+1,0,none⟩),.pointer (some ⟨w.heap.size+1+1,0,none⟩)]) rfl trivial (enters_of func181 Wr rfl)
  (chunk2_stops 2 (w.heap.size+1) (w.heap.size+1+1) Wo bk off cap HC.o.1 HC.o.2 W4 (za Jn.o rfl) (za Jo.o rfl))
  (fun h k=>⟨k.1.trans h.1,k.2.trans h.2⟩) (fun W l o o' hl _ _ _=>⟨World.putObj_heap_other Ws,World.putObj_heap_other Ws⟩) (Below.refl _ _) (fun _=>rfl)
  (fun pre W=>UpR nd W1 w.heap.size pre W) (fun _ _ _=>False)
  (fun pre A B row hs hg hr=>by
   obtain⟨a1,c1,h⟩:=hs.val
   have hne:∀ k c t f,A.heap[k]? = some (Obj.cells c t f)→B.heap[k]? = some (Obj.cells c t f):=fun k c t f hc=>(hg.block k (lt_of_block hc) (fun e=>by
    obtain⟨ob,h1,h2⟩:=(hr k e.symm).2
    rw [hc] at h1
    cases h1
    cases h2)).trans hc
   obtain⟨d0,f0,e0⟩:=hs.box0
   obtain⟨d1,f1,e1⟩:=hs.box1
   exact⟨⟨a1,c1,h.grown hg (fun k e=>⟨by have:=(hr k e).1;omega,(hr k e).2⟩)⟩,⟨d0,f0,hne _ _ _ _ e0⟩,⟨d1,f1,hne _ _ _ _ e1⟩⟩)
  (fun _ _ _ _ _ hs _ _=>hs)
  ⟨⟨none,0,Jw.o⟩,⟨_,_,Jn.o⟩,⟨_,_,Jo.o⟩⟩
  (fun x=>{ tmps:=#[.slice (some ⟨bk,off,none⟩) 2 cap,undef,.slice none 0 0,.pointer (some ⟨w.heap.size,0,none⟩),.slice (some ⟨bk,off,none⟩) 2 2,.slice (some ⟨bk,off,none⟩) 2 cap,.func (.func 181) #[] #[.pointer (some ⟨w.heap.size+1,0,none⟩),.pointer (some ⟨w.heap.size+1+1,0,none⟩)],.slice (some ⟨bk,off,none⟩) 2 2,undef,undef,undef,undef,undef,undef,undef,undef,undef,undef,undef],defers:=[] }) ?assign ?body ?done ?stop
 case assign=>
  intro l' x W K hK
  gi_wp2
  exact hK
 case body=>
  rintro l' pre xi W ⟨⟨a3,c3,hpa⟩,⟨d0,e0,hd0⟩,⟨d1',e1,hd1'⟩⟩ hlen
  have hpre:pre=[]:=List.eq_nil_of_length_eq_zero Ws
  subst hpre
  have Gx:=qI hd0
  have Gy:=qI hd1'
  have Gi:=qI hpa
  have f0:W.cell? ⟨w.heap.size,0,none⟩=some (.slice a3 0 c3):=za (o:=0) hpa.box rfl
  have Gz:Hid (W.rangeAt bk off (x0.map bv)):=qI (fun j v hv=>hpa.kept.cell (Gm.o j v hv) (by have:=Jm.o;simp;omega))
  have Ja:Hid (W.rangeAt bk (off+32) (x1.map bv)):=qI (fun j v hv=>hpa.kept.cell (Ju.o j v hv) (by have:=Jm.o;simp;omega))
  have CNW:Hid (Cq W 145 #[.agg (x0.map bv).toArray,.agg (x1.map bv).toArray] (.agg (nd.map bv).toArray)):=qI (fun w2 hk=>CN.o w2 (hpa.kept.then hk))
  clear hpa hlen hd0 hd1'
  gi_wp2
  refine vK (k:=19) 9 [fI (.slice a3 0 c3),
   fI (.slice (some ⟨bk,off,none⟩) 2 2),
   fI (.pointer (some ⟨bk,off,none⟩)),
   fI (.agg (x0.map bv).toArray),
   fI (.slice (some ⟨bk,off,none⟩) 2 2),
   fI (.pointer (some ⟨bk,off+32,none⟩)),
   fI (.agg (x1.map bv).toArray),
   fI (.agg (nd.map bv).toArray),
   xD (nd.map bv) 1 32] Wr Wr (fun⟨_,_,h⟩=>h) rfl Wr (fun x=>yH) ?_ ?_
  ·refine⟨?_,?_,?_,?_,?_,?_,?_,?_,?_,trivial⟩ <;> intro x w2 hkw b hd
   ·have y0:=hkw.cell f0 Wz
    exact ze
   ·exact ze
   ·have d1:x 1=_:=hd 1 Wr
    exact ze
   ·have d2:x 2=_:=hd 2 Wr
    have d2:x 2=_:=hd 2 Wr
    change wpList _ _ _ [_] _ _
    refine zS Wk _ rfl (g:=bk) (of:=off) (fun j v hv=>hkw.cell (Gz.o j v hv) Wz) Gk.o d2 ?_
    exact⟨rfl,_,rfl,rfl,Wd⟩
   ·exact ze
   ·have d4:x 4=_:=hd 4 Wr
    exact ze
   ·have d5:x 5=_:=hd 5 Wr
    have d5:x 5=_:=hd 5 Wr
    change wpList _ _ _ [_] _ _
    refine zS Wk _ rfl (g:=bk) (of:=off+32) (fun j v hv=>hkw.cell (Ja.o j v hv) Wz) Gl.o d5 ?_
    exact⟨rfl,_,rfl,rfl,Wd⟩
   ·have d3:x 3=_:=hd 3 Wr
    have d6:x 6=_:=hd 6 Wr
    have d3:x 3=_:=hd 3 Wr
    have d6:x 6=_:=hd 6 Wr
    have CX:=CNW.o _ hkw
    go_wp2_with (go_at_call 145;refine CX.mh ?_;rintro e w5 rfl Jb)
    exact⟨rfl,Jb.o⟩
   ·have d7:x 7=_:=hd 7 Wr
    have d7:x 7=_:=hd 7 Wr
    change wpList _ _ _ [_] _ _
    refine yB underlying73 xU jx Wo Wo Wk _ rfl (cs:=nd.map bv) (by simp [Ga.o]) d7 ?_
    exact⟨rfl,_,rfl,⟨w2.heap.size,rfl,Nat.le_refl _,Wz,zT w2 (nd.map bv) 32 1 _ _ rfl (by simp [Ga.o]) Wo⟩,Wd.alloc _⟩
  ·intro x w17 hkw b17 hd hwin
   have d0:x 0=_:=hd 0 Wo
   obtain⟨g9,d8,-,-,hsl⟩:=hd 8 Wo
   have Jc:=qI hsl
   have Ge:=qI (Gi.o.kept0 hkw)
   have Gp:=qI hkw
   clear hd hwin hkw hsl
   change wpList _ _ _ [_,_] _ _
   go_wp2_with (at_builtin;refine zk YE (v:=.slice a3 0 c3) (n:=0) (xs:=[]) Ge.o.row Jc.o (yL _) (by simp only [maxLen];omega) Ws Ge.o.kept.size rfl _ _ rfl d0 d8 ?_;intro v6 w18 hown hk6 _ hb6;obtain⟨a8,c8,rfl,-,-⟩:=(Slc.of_row hown).form;have Jd:=qI hk6;obtain⟨u0,uf,ho18⟩:=Ge.o.push (x:=nd) (a5:=a8) (c5:=c8) hown hk6;have Je:=qI ho18;clear hown hk6 hb6 ho18)
   have Gq:zb (w.heap.size::(Value.slice a3 0 c3).ownBlock.toList) W (w18.setCell ⟨w.heap.size,0,none⟩ (.slice a8 (0+1) c8)):=
    (((Gp.o.mono Wz).trans' (Jd.o.mono (fun k h=>List.mem_cons_of_mem _ h)))).setCell (.inl Wz) _
   have hcl:∀ k,k∈w.heap.size::(Value.slice a3 0 c3).ownBlock.toList→∃ c t f,W.heap[k]? = some (.cells c t f):=fun k hk=>by
    rcases List.mem_cons.1 hk with rfl | hk
    ·exact⟨_,_,_,Gi.o.box⟩
    ·exact kD Gi.o.row (Option.mem_toList.1 hk)
   have hn0:∀ k d t e,W.heap[k]? = some (.cells d t e)→t≠45→k≠w.heap.size→k ∉ w.heap.size::(Value.slice a3 0 c3).ownBlock.toList:=fun k d t e h1 h2 h3 hk=>by
    rcases List.mem_cons.1 hk with hk | hk
    ·exact h3 hk
    ·have h4:=yp Gi.o.row (Option.mem_toList.1 hk)
     rw [zM h1] at h4
     exact h2 (Nat.add_right_cancel h4)
   have h8:=hn0 _ _ _ _ Gx.o Wo Ws
   have h9:=hn0 _ _ _ _ Gy.o Wo Ws
   exact⟨KeepsFrom.of_kept Gq hcl,⟨Gq.block _ (lt_of_block Gx.o) h8,Gq.block _ (lt_of_block Gy.o) h9⟩,⟨⟨a8,c8,Je.o⟩,⟨_,_,Gq.heap Gx.o h8⟩,⟨_,_,Gq.heap Gy.o h9⟩⟩⟩
 case done=>
  rintro D xs W hD rfl ⟨⟨a3,c3,hpa⟩,-,-⟩ hK
  have hlw:((List.finRange 1).map fun _=>nd).length=1:=rfl
  have hfl:((List.finRange 1).map fun _=>nd).flatten=nd:=by show nd++[]=nd;exact List.append_nil nd
  have Gi:=qI hpa
  have f0:W.cell? ⟨w.heap.size,0,none⟩=some (.slice a3 1 c3):=za (o:=0) hpa.box rfl
  have Jy:=qI hK
  have Jc:Hid (Slc W 32 (.slice a3 1 c3) 1 (nd.map bv)):=qI (by have h9:=Slc.of_row hpa.row;rw [hlw,hfl] at h9;exact h9)
  have Jz:Hid (∀ g,zW (.slice a3 1 c3)=some g→g≠D):=qI (fun g hg e=>by
   obtain⟨cc,tt,ff,h2⟩:=kD hpa.row (z6 hg)
   rw [e,hK] at h2
   cases h2)
  have Ma:Hid (∀ g,zW (.slice a3 1 c3)=some g→w.heap.size≤g):=qI (fun g hg=>by have:=(hpa.row.lt g (z6 hg)).1;omega)
  clear hpa hK hlw hfl
  gi_wp2
  go_wp2_with fail
  have Jp:zb [D] W (W.putObj D (.deferred none)):=Wd.grown (grownBy_putObj' W D (.deferred none)) (fun k e=>by cases e;exact .inl Wz)
  refine⟨Wz,.inl ⟨_,_,rfl,run_takeDeferred Jy.o,?_⟩⟩
  refine⟨.slice a3 1 c3,by simp [results,results107,go_sem],⟨_,_,rfl,Jc.o.kept Jp (fun g hg hx=>by have:=Jz.o g hg;simp at hx;exact this hx),Ma.o⟩,?_⟩
  exact ((Gd.o.trans Gi.o.kept (by intro i hi;simp at hi;subst hi;exact .inr (Nat.le_refl _)))).trans Jp (by intro i hi;simp at hi;subst hi;exact .inr Ws)
 case stop=>
  rintro D c' pre W _ _ h _
  exact h.elim
attribute [local go_sem] Oper.semAt_some
theorem ones2_any (w:World):Calls Tryz.prog 143 #[.int .u64 2] w fun e w'=>e = .returned (.int .i64 1)∧w=w':=by
 have CO:Calls Tryz.prog 180 #[.int .u64 2] w fun e w'=>e = .returned (.int .i64 1)∧w=w':=by
  go_enter func180,ntmps180
  go_wp2_with fail
  go_ret
  exact⟨Wr,rfl⟩
 go_enter func143,ntmps143
 go_wp2_with (go_at_call 180;refine CO.mono ?_;rintro e w' ⟨rfl,rfl⟩)
 go_ret
 exact⟨rfl,rfl⟩
theorem KK (w:World):Calls Tryz.prog 105 #[.int .i64 2] w fun e w'=>e = .returned (.bool true)∧w=w':=by
 have CO:=ones2_any w
 go_enter func105,ntmps105
 go_wp2_with (go_at_call 143;refine CO.mono ?_;rintro e w' ⟨rfl,rfl⟩)
 go_ret
 exact⟨rfl,rfl⟩
@[go_sem] theorem eqlNil32 (w:World) (a:Option Addr) (n c:Nat):(binOp .eql 73 (.slice a n c) (.slice none 0 0)).run Tryz.prog w = .ok (.bool a.isNone) w:=Lib.run_eql_slice_nil w _ _ a n c 0 0 underlying73
theorem clone32_any {w:World}{ad:Addr}{n c:Nat}{xs:List Value}(h:Slc w 32 (.slice (some ad) n c) n xs) (hx:∀ u∈xs,u.oneCell'=true) (hl:n≤1000000) :
  Calls Tryz.prog 106 #[.slice (some ad) n c] w fun e w'=>(∃ a c,e = .returned (.slice a n c)∧w'.ownsRow w.heap.size 45 32 (.slice a n c) n xs)∧zb [] w w':=by
 have h1:=(zb.refl [] w).alloc (.cells #[] 45)
 have hown:=vO (size:=32) (base:=w.heap.size) (t:=45) w rfl (Nat.le_refl _)
 have hsrc:=h.kept0 h1
 go_enter func106,ntmps106
 go_wp2_with (at_builtin;refine zk YE hown hsrc hx (by simp only [maxLen];omega) Ws Wz rfl _ _ rfl rfl rfl ?_;intro v' w1 hown1 hk1 _ hb1)
 rw [Nat.zero_add,List.nil_append] at hown1
 obtain⟨a',c',rfl,-,-⟩:=(Slc.of_row hown1).form
 go_ret
 exact⟨⟨_,_,rfl,hown1⟩,h1.trans hk1 (by simp [Value.ownBlock])⟩
theorem tyLev:yU Tryz.prog 114 73 1 24 (.slice none 0 0):=⟨underlying114,Wr,rfl,Wo⟩
attribute [local go_sem] Oper.semAt_some
structure Lev2 (w:World) (g:Nat) (x0 x1 nd:List UInt8):Prop where
 ex:∃ gb c2 gc oc c3,w.cell? ⟨g,0,none⟩=some (.slice (some ⟨gb,0,none⟩) 2 c2)∧w.cell? ⟨g,1,none⟩=some (.slice (some ⟨gc,oc,none⟩) 1 c3)∧w.rangeAt gb 0 (x0.map bv)∧w.rangeAt gb 32 (x1.map bv)∧w.rangeAt gc oc (nd.map bv)
def lenOf:Value→Nat
 | .slice _ n _=>n
 | _=>0
theorem JT {w:World}{base e size n c:Nat}{a:Option Addr}{xs:List Value}(h:w.ownsRow base e size (.slice a n c) n xs) (hn:0<n):∃ g,a=some ⟨g,0,none⟩:=by
 rcases h.2 with ⟨-,h0⟩ | ⟨g,cap,cur,e,-⟩
 ·omega
 ·injection e with e1 e2 e3
  exact⟨g,e1⟩
theorem own_cap {w:World}{base e size n c g:Nat}{xs:List Value}(h:w.ownsRow base e size (.slice (some ⟨g,0,none⟩) n c) n xs):n≤c∧c≤maxLen:=by
 obtain⟨a',c',h3,h4,h5⟩:=(Slc.of_row h).form
 simp only [Value.slice.injEq] at h3
 obtain⟨-,-,rfl⟩:=h3
 exact⟨h4,h5⟩
theorem two_rows {w:World}{base c g:Nat}{x0 x1:List UInt8}(h0:x0.length=32) (h:w.ownsRow base 45 32 (.slice (some ⟨g,0,none⟩) 2 c) 2 ((x0++x1).map bv)):w.rangeAt g 0 (x0.map bv)∧w.rangeAt g 32 (x1.map bv):=by
 have hl:=h.1
 rw [List.length_map,List.length_append] at hl
 refine⟨fun j v hv=>?_,fun j v hv=>?_⟩
 ·have hj:=(List.getElem?_eq_some_iff.1 hv).1
  rw [List.length_map] at hj
  rw [Nat.zero_add,h.cellAt j Ws,List.map_append,List.getElem?_append_left (by rw [List.length_map];omega),hv]
 ·have hj:=(List.getElem?_eq_some_iff.1 hv).1
  rw [List.length_map] at hj
  rw [h.cellAt (32+j) Ws,List.map_append,List.getElem?_append_right (by rw [List.length_map];omega),List.length_map,show 32+j-x0.length=j by omega,hv]
theorem K4 {w:World}{bk off cap:Nat}{x0 x1:List UInt8}(h0:x0.length=32) (h1:x1.length=32) (hs:Slc w 32 (.slice (some ⟨bk,off,none⟩) 2 cap) 2 ((x0++x1).map bv)) (hks:xN w) :
  Calls Tryz.prog 74 #[.slice (some ⟨bk,off,none⟩) 2 cap] w fun e w'=>(∃ g cc,e = .returned (.tuple #[.slice (some ⟨g,0,none⟩) 2 cc,.int .i64 0])∧Lev2 w' g x0 x1 (yO x0 x1)∧2≤cc∧cc≤maxLen)∧zb [] w w':=by
 have CM:=KK w
 have CC:=qI (clone32_any hs (yL _) Wo)
 have Gw:=qI hks
 have Jf:=qI (And.intro h0 h1)
 have Ga:Hid ((yO x0 x1).length=32):=qI (yP _ _)
 have CU:Hid (∀ w2 b o c2,zb [] w w2→2≤c2→c2≤maxLen→w2.rangeAt b o (x0.map bv)→w2.rangeAt b (o+32) (x1.map bv)→Calls Tryz.prog 107 #[.slice (some ⟨b,o,none⟩) 2 c2] w2 fun e w'=>(∃ a c,e = .returned (.slice a 1 c)∧Slc w' 32 (.slice a 1 c) 1 ((yO x0 x1).map bv)∧∀ g,zW (.slice a 1 c)=some g→w2.heap.size≤g)∧zb [] w2 w'):=qI (fun w2 b o c2 hk h2 h3 h4 h5=>up_any Jf.o.1 Jf.o.2 h2 h3 h4 h5 (Gw.o.kept0 hk))
 clear h0 h1 hs hks
 generalize yO x0 x1=nd at Ga CU ⊢
 go_enter func74,ntmps74
 go_upto_region 3 with (go_at_call 105;refine CM.mono ?_;rintro e w' ⟨rfl,rfl⟩)
 go_upto_region 4 with (go_at_call 106;refine CC.o.mono ?_;rintro e w2 ⟨⟨a2,c2,rfl,ho⟩,hk2⟩;have HO:=qI ho;have Gb:=qI hk2;clear ho hk2)
 obtain⟨gb,rfl⟩:=JT HO.o Wo
 have Jq:=qI (own_cap HO.o)
 obtain⟨hr0,hr1⟩:=two_rows Jf.o.1 HO.o
 have Jr:=qI hr0
 have Gs:=qI hr1
 obtain⟨W3,Gt⟩:∃ W3,Hid (W3=w2.alloc (.cells #[.slice (some ⟨gb,0,none⟩) 2 c2] 73)):=⟨_,qI rfl⟩
 have Gf:Hid (zb [] w2 W3):=qI (kA1 Gt.o)
 have Jg:Hid (W3.ownsRow w.heap.size 73 1 (.slice (some ⟨w2.heap.size,0,none⟩) 1 1) 1 [.slice (some ⟨gb,0,none⟩) 2 c2]):=qI (by
  refine⟨rfl,.inr ⟨w2.heap.size,1,#[.slice (some ⟨gb,0,none⟩) 2 c2],rfl,Gb.o.size,?_,Wo,Wo,rfl,rfl⟩⟩
  rw [Gt.o];exact zd rfl)
 rw [← Gt.o]
 have f0:W3.cell? ⟨w2.heap.size,0,none⟩=some (.slice (some ⟨gb,0,none⟩) 2 c2):=by rw [Jg.o.cellAt 0 Wo];rfl
 have Js:Hid (w2.heap.size<W3.heap.size):=qI (by rw [Gt.o];simp)
 generalize hg0:w2.heap.size=g0 at Jg f0 Js ⊢
 have Mb:=qI (Nat.le_of_eq hg0)
 clear hg0
 clear hr0 hr1
 go_wp2_with fail
 clear f0
 go_loopw [4,5] (fun t4 t5 wr=>(t4 = .slice (some ⟨g0,0,none⟩) 1 1∧t5 = .slice (some ⟨gb,0,none⟩) 2 c2∧W3=wr)∨(∃ g cc gc oc c3,t4 = .slice (some ⟨g,0,none⟩) 2 cc∧t5 = .slice (some ⟨gc,oc,none⟩) 1 c3∧Hid (wr.cell? ⟨g,0,none⟩=some (.slice (some ⟨gb,0,none⟩) 2 c2))∧Hid (wr.cell? ⟨g,1,none⟩=some (.slice (some ⟨gc,oc,none⟩) 1 c3))∧Hid (wr.rangeAt gc oc (nd.map bv))∧Hid (zb [] w2 wr)∧Hid (zb [] w wr)∧Hid (2≤cc∧cc≤maxLen))) (fun _ t5 _=>lenOf t5)
 case atStart=>exact .inl ⟨rfl,rfl,rfl⟩
 case round=>
  rcases hrel with ⟨rfl,rfl,rfl⟩ | ⟨g,cc,gc,oc,c3,rfl,rfl,Gu,Mc,Jh,Gr,Ji,Jj⟩
  ·have CUW:=qI (CU.o W3 gb 0 c2 (Gb.o.then Gf.o) Jq.o.1 Jq.o.2 (fun j v hv=>Gf.o.cell (Jr.o j v hv) Wz) (fun j v hv=>by rw [Nat.zero_add];exact Gf.o.cell (Gs.o j v hv) Wz))
   go_upto_region 7 with (go_at_call 107;refine CUW.o.mono ?_;rintro e w4 ⟨⟨a4,c4,rfl,hs4,hg4⟩,hk4⟩;have Md:=qI hs4;have Me:=qI hg4;have Gh:=qI hk4;clear hs4 hg4 hk4)
   obtain⟨gc,oc,rfl,-,hrow⟩:=xy Md.o Wo
   have Jk:Hid (w4.rangeAt gc oc (nd.map bv)):=qI hrow.cells
   have Mf:=qI (zo Jg.o Gh.o Wz)
   clear hrow
   go_wp2_with (at_builtin;refine zk tyLev (base:=w.heap.size) (v:=.slice (some ⟨g0,0,none⟩) 1 1) (n:=1) (m:=1) (news:=[.slice (some ⟨gc,oc,none⟩) 1 c4]) (xs:=[.slice (some ⟨gb,0,none⟩) 2 c2]) (zo Mf.o ((zb.refl [] _).alloc _) Wz) (zT w4 _ 1 1 _ _ rfl rfl Wo) (by intro u hu;simp at hu;subst hu;rfl) Wo Wo (by have:=Gb.o.size;have:=Gf.o.size;have:=Gh.o.size;simp;omega) Wk _ _ rfl rfl rfl ?_;intro v6 w6 hown hk6 _ _;obtain⟨a6,c6,rfl,-,-⟩:=(Slc.of_row hown).form;obtain⟨g6,rfl⟩:=JT hown Wo;have Gg:=qI hown;have Gj:=qI hk6;clear hown hk6)
   case roundEnd=>
    have hkk:zb [] w2 w6:=((Gf.o.then Gh.o).alloc _).trans Gj.o (by intro b hb;simp [Value.ownBlock] at hb;subst hb;exact .inr Mb.o)
    have hgc:W3.heap.size≤gc:=Me.o gc (ji Wo)
    have hg0:=Js.o
    exact⟨.inr ⟨g6,c6,gc,oc,c4,rfl,rfl,qI (by rw [Gg.o.cellAt 0 Wo];rfl),qI (by rw [Gg.o.cellAt 1 Wo];rfl),qI (fun j v hv=>Gj.o.cell (((zb.refl [] _).alloc _).cell (Jk.o j v hv) Wz) (by simp [Value.ownBlock];omega)),qI hkk,qI (Gb.o.then hkk),qI (own_cap Gg.o)⟩,by show 1<2;decide⟩
  ·go_wp2_with fail
   go_ret2
   exact⟨⟨g,cc,rfl,⟨gb,c2,gc,oc,c3,Gu.o,Mc.o,fun j v hv=>Gr.o.cell (Jr.o j v hv) Wz,fun j v hv=>Gr.o.cell (Gs.o j v hv) Wz,Jh.o⟩,Jj.o⟩,Ji.o⟩
attribute [local go_sem] Oper.semAt_some
theorem root_any {w:World}{bk off cap:Nat}{x0 x1:List UInt8}(h0:x0.length=32) (h1:x1.length=32) (hs:Slc w 32 (.slice (some ⟨bk,off,none⟩) 2 cap) 2 ((x0++x1).map bv)) (hks:xN w) :
  CL w 38 #[.slice (some ⟨bk,off,none⟩) 2 cap] (.tuple #[.agg ((yO x0 x1).map bv).toArray,.int .i64 0]):=by
 obtain⟨W1,Gc⟩:∃ W1,Hid (W1=w.alloc (.cells z32 45)):=⟨_,qI rfl⟩
 have Gd:Hid (zb [] w W1):=qI (kA1 Gc.o)
 have Mg:Hid (zR W1 w.heap.size (xe zu 0)):=qI (by rw [Gc.o];exact zd rfl)
 have CL:=qI (K4 h0 h1 (hs.kept0 Gd.o) (hks.kept0 Gd.o))
 have Ga:Hid ((yO x0 x1).length=32):=qI (yP _ _)
 clear h0 h1 hs hks
 generalize yO x0 x1=nd at Ga CL ⊢
 go_enter func38,ntmps38
 go_upto_region 1 with fail
 refine yq Gc.o ?_
 go_upto_region 4 with (go_at_call 74;refine CL.o.mono ?_;rintro e w2 ⟨⟨g,cc,rfl,hl,-⟩,hk2⟩;have Jl:=qI hl;have Gb:=qI hk2;clear hl hk2)
 obtain⟨gb,c2,gc,oc,c3,q0,q1,-,-,hnd⟩:=Jl.o.ex
 have Jh:=qI hnd
 have Mh:=qI (Mg.o.kept0 Gb.o)
 clear hnd q0
 go_wp2_with first
  | (refine zS Wk _ rfl (g:=gc) (of:=oc) Jh.o Ga.o Wk ?_)
  | (refine zq Wk (.tmp 2) (.tmp 22) Wk Mh.o (zJ _ _) Ga.o Wk Wk ?_;intro w5 h5 hk5;have H5:=qI h5;have Jb:=qI hk5;clear h5 hk5)
 have hres:=H5.o.var Ga.o
 refine bodyPost_ret (v:=.tuple #[.agg (nd.map bv).toArray,.int .i64 0]) (by simp only [results,results38];simp [hres,Sem.run_bind,asAddr,Act.put]) rfl ⟨rfl,?_⟩
 exact (Gd.o.then Gb.o).trans Jb.o (by intro i hi;simp at hi;subst hi;exact .inr (Nat.le_refl _))
def K0 (x0 x1:List UInt8) (i:Nat):List UInt8:=if i=0 then x1 else x0
theorem way_any {w:World}{g cc:Nat}{x0 x1 nd:List UInt8}(h0:x0.length=32) (h1:x1.length=32) (h:Lev2 w g x0 x1 nd) (hcc:2≤cc∧cc≤maxLen) (i:Nat) (hi:i<2) :
  Calls Tryz.prog 146 #[.slice (some ⟨g,0,none⟩) 2 cc,.int .i64 i] w fun e w'=>(∃ a c,e = .returned (.slice a 1 c)∧Slc w' 32 (.slice a 1 c) 1 ((K0 x0 x1 i).map bv))∧zb [] w w':=by
 obtain⟨gb,c2,gc,oc,c3,q0,q1,hr0,hr1,-⟩:=h.ex
 have HL:Hid ((K0 x0 x1 i).length=32):=qI (by unfold K0;split <;> assumption)
 have hcc1:(2:Int)≤cc:=Ws
 have hcc2:2≤cc:=hcc.1
 have hcc3:¬ cc=0:=Ws
 have Mi:=qI q0
 have HR:Hid (w.rangeAt gb (32*(1-i)) ((K0 x0 x1 i).map bv)):=qI (by
  have:i=0∨i=1:=Ws
  rcases this with rfl | rfl
  ·exact hr1
  ·exact hr0)
 have HI:=qI hi
 clear h h0 h1 hr0 hr1 q1 hcc q0
 generalize K0 x0 x1 i=ot at HL HR ⊢
 go_enter func146,ntmps146
 go_wp2_with fail
 go_loopw [1,5,7,14] (fun iv t5 _ idx wr=>(iv = .int .i64 i∧t5 = .slice none 0 0∧idx = .int .i64 0∧w=wr)∨(∃ a c,t5 = .slice a 1 c∧idx = .int .i64 1∧Hid (Slc wr 32 (.slice a 1 c) 1 (ot.map bv))∧Hid (zb [] w wr))) (fun _ _ _ idx _=>1-(intOf idx).toNat)
 case atStart=>exact .inl ⟨rfl,rfl,rfl,rfl⟩
 case round=>
  rcases hrel with ⟨rfl,rfl,rfl,rfl⟩ | ⟨a,c,rfl,rfl,HS,Ji⟩
  ·have q0:=Mi.o
   have hi2:i=0∨i=1:=by have:=HI.o;omega
   rcases hi2 with rfl | rfl
   ·have Gm:Hid (w.rangeAt gb 32 (ot.map bv)):=qI HR.o
    clear HR
    go_wp2_with first
     | (refine zS Wk _ rfl (g:=gb) (of:=32) Gm.o HL.o Wk ?_)
     | (refine yB underlying73 xU jx Wo Wo Wk _ rfl (cs:=ot.map bv) (by simp [HL.o]) Wk ?_)
     | (at_builtin;refine zk YE (base:=w.heap.size) (v:=.slice none 0 0) (n:=0) (m:=1) (news:=ot.map bv) (xs:=[]) (World.ownsRow_nil _ _ _ _) (zT w (ot.map bv) 32 1 _ _ rfl (by simp [HL.o]) Wo) (yL _) Wo Wo Wz Wk _ _ rfl rfl rfl ?_;intro v6 w6 hown hk6 _ _;obtain⟨a6,c6,rfl,-,-⟩:=(Slc.of_row hown).form;have Gg:=qI hown;have Gj:=qI hk6;clear hown hk6)
    case roundEnd=>exact⟨.inr ⟨a6,c6,rfl,by go_num,qI (Slc.of_row Gg.o),qI (((zb.refl [] w).alloc _).trans Gj.o (by intro b hb;simp [Value.ownBlock] at hb))⟩,by simp [intOf]⟩
   ·have Gm:Hid (w.rangeAt gb 0 (ot.map bv)):=qI HR.o
    clear HR
    go_wp2_with first
     | (refine zS Wk _ rfl (g:=gb) (of:=0) Gm.o HL.o Wk ?_)
     | (refine yB underlying73 xU jx Wo Wo Wk _ rfl (cs:=ot.map bv) (by simp [HL.o]) Wk ?_)
     | (at_builtin;refine zk YE (base:=w.heap.size) (v:=.slice none 0 0) (n:=0) (m:=1) (news:=ot.map bv) (xs:=[]) (World.ownsRow_nil _ _ _ _) (zT w (ot.map bv) 32 1 _ _ rfl (by simp [HL.o]) Wo) (yL _) Wo Wo Wz Wk _ _ rfl rfl rfl ?_;intro v6 w6 hown hk6 _ _;obtain⟨a6,c6,rfl,-,-⟩:=(Slc.of_row hown).form;have Gg:=qI hown;have Gj:=qI hk6;clear hown hk6)
    case roundEnd=>exact⟨.inr ⟨a6,c6,rfl,by go_num,qI (Slc.of_row Gg.o),qI (((zb.refl [] w).alloc _).trans Gj.o (by intro b hb;simp [Value.ownBlock] at hb))⟩,by simp [intOf]⟩
  ·go_wp2_with fail
   go_ret
   exact⟨⟨a,c,rfl,HS.o⟩,Ji.o⟩
theorem Way_any {w:World}{bk off cap:Nat}{x0 x1:List UInt8}(h0:x0.length=32) (h1:x1.length=32) (hs:Slc w 32 (.slice (some ⟨bk,off,none⟩) 2 cap) 2 ((x0++x1).map bv)) (hks:xN w) (i:Nat) (hi:i<2) :
  Calls Tryz.prog 108 #[.slice (some ⟨bk,off,none⟩) 2 cap,.int .i64 i] w fun e w'=>(∃ a c,e = .returned (.tuple #[.slice a 1 c,.int .i64 0])∧Slc w' 32 (.slice a 1 c) 1 ((K0 x0 x1 i).map bv))∧zb [] w w':=by
 have CL:=qI (K4 h0 h1 hs hks)
 have CW:Hid (∀ w2 g cc,Lev2 w2 g x0 x1 (yO x0 x1)→2≤cc∧cc≤maxLen→Calls Tryz.prog 146 #[.slice (some ⟨g,0,none⟩) 2 cc,.int .i64 i] w2 fun e w'=>(∃ a c,e = .returned (.slice a 1 c)∧Slc w' 32 (.slice a 1 c) 1 ((K0 x0 x1 i).map bv))∧zb [] w2 w'):=qI (fun w2 g cc h hc=>way_any h0 h1 h hc i hi)
 have hi1:(i:Int)<2:=Ws
 have hd:decide (2≤i)=false:=decide_eq_false Ws
 clear h0 h1 hs hks hi
 generalize K0 x0 x1 i=ot at CW ⊢
 generalize yO x0 x1=nd at CL CW
 go_enter func108,ntmps108
 go_wp2_with first
  | (go_at_call 74;refine CL.o.mono ?_;rintro e w2 ⟨⟨g,cc,rfl,hl,hc⟩,hk2⟩;have Jl:=qI hl;have Jj:=qI hc;have Gb:=qI hk2;clear hl hc hk2)
  | (go_at_call 146;refine (CW.o _ _ _ Jl.o Jj.o).mono ?_;rintro e w3 ⟨⟨a3,c3,rfl,hs3⟩,hk3⟩;have Mj:=qI hs3;have Gf:=qI hk3;clear hs3 hk3)
 go_ret2
 exact⟨⟨_,_,rfl,Mj.o⟩,Gb.o.then Gf.o⟩
end Go.Proofs.YtibnfbglanpoiaaGreatDoor

/- Parts of one proof, merged: XCP XCQ XCR XCS. -/
import Derived.Test.YtibnfbglanpoiaaGreatDoorQeAB
import Derived.RangeFuncLeaves
import Derived.Shelf.Abstract
import Derived.TacticsInMore
import Derived.LoopNIn
import Derived.LoopIn
set_option linter.all false
set_option maxHeartbeats 12800000
set_option maxRecDepth 100000
namespace Go.Proofs.YtibnfbglanpoiaaGreatDoor
open Go.Proofs.Tryz
open Go.RowKit
attribute [local go_sem] Oper.semAt_some
def jg (N k:Nat):List (Fin N):=(List.finRange N).take k
theorem zab {N k:Nat}(h:k≤N):(jg N k).length=k:=by simp [jg];omega
theorem QT {N k:Nat}(h:k<N):jg N (k+1)=jg N k++[⟨k,h⟩]:=by
 unfold jg
 rw [List.take_succ_eq_append_getElem (by simpa using h),List.getElem_finRange]
 rfl
theorem KJ (N:Nat):jg N N=List.finRange N:=by unfold jg;rw [List.take_of_length_le Wz]
def KpB (Bs Bn:Nat) (W W':World):Prop:=W'.heap[Bs]? = W.heap[Bs]? ∧ W'.heap[Bn]? = W.heap[Bn]?
theorem KpB.c0 {Bs Bn:Nat}{W W':World}(h:KpB Bs Bn W W'):W'.cell? ⟨Bs,0,none⟩=W.cell? ⟨Bs,0,none⟩:=World.cell?_of_block h.1
theorem KpB.c1 {Bs Bn:Nat}{W W':World}(h:KpB Bs Bn W W'):W'.cell? ⟨Bn,0,none⟩=W.cell? ⟨Bn,0,none⟩:=World.cell?_of_block h.2
theorem chunkB_in (n l Bs Bn N z:Nat) (hn:1≤n) (hz:1≤z) (hz2:z≤64) (hN:N≤256) (a:Option Addr) (b off cap:Nat) (ha:0<N→a=some ⟨b,off,none⟩) (hcap:z*N≤cap) (hcap2:cap≤maxLen) (J Jx:List (Fin N)→World→Prop) (hJd:∀ pre W q,J pre W→J pre (World.drewN W q))
  (hY:∀ pre x W,J pre W→pre.length<N→YieldAt Fence.wide (n-1) Tryz.prog l #[.slice (some ⟨b,off+z*x.val,none⟩) z z] W fun e W'=>
   (e = .returned (.bool true)∧J (pre++[x]) W'∧KpB Bs Bn W W')∨(e = .returned (.bool false)∧Jx (pre++[x]) W'))
  (W:World) (hBs:W.cell? ⟨Bs,0,none⟩=some (.slice a (z*N) cap)) (hBn:W.cell? ⟨Bn,0,none⟩=some (.int .i64 z)) (h0:J [] W) :
  CallsIn Fence.wide n Tryz.prog 174 #[.func (.yield l) #[] #[],.pointer (some ⟨Bs,0,none⟩),.pointer (some ⟨Bn,0,none⟩)] W fun e W'=>(∃ v,e = .returned v) ∧
   ((∃ ys,ys=List.finRange N∧J ys W')∨(∃ pre,True∧Jx pre W')):=by
 refine callsIn_of_wp func174 rfl trivial ?_ rfl
 simp only [ntmps174,List.size_toArray,List.length_cons,List.length_nil,Nat.reduceAdd,Nat.reduceSub,Array.replicate_succ,Array.replicate_zero,List.push_toArray,List.append_toArray,List.nil_append,List.cons_append]
 gi_wp2
 gi_loopw [4,5] (fun i _ wr=>∃ k:Nat,k≤N∧i = .int .i64 (z*k:Nat)∧J (jg N k) wr∧wr.cell? ⟨Bs,0,none⟩=some (.slice a (z*N) cap)∧wr.cell? ⟨Bn,0,none⟩=some (.int .i64 z))
  (fun i _ _=>z*N-(intOf i).toNat)
 case atStart=>exact⟨0,Nat.zero_le _,Wz,h0,hBs,hBn⟩
 case round=>
  obtain⟨k,hk,rfl,hJs,c0,c1⟩:=hrel
  have hpk:z*k+(if k<N then z else 0)≤z*N∧(k=N→z*k=z*N):=by
   refine⟨?_,fun e=>by rw [e]⟩
   split
   ·rename_i h
    have h1:z*(k+1)≤z*N:=Nat.mul_le_mul_left z h
    rw [Nat.mul_add,Nat.mul_one] at h1
    exact h1
   ·have h1:z*k≤z*N:=Nat.mul_le_mul_left z hk
    omega
  by_cases hlt:k<N
  ·have HY:=qI hY
   rw [if_pos hlt] at hpk
   have Ym:=qI hlt
   have ha':=ha Ws
   subst ha'
   have Ya:Hid (z*(k+1)=z*k+z):=qI (by rw [Nat.mul_add,Nat.mul_one])
   have Di:=qI hJs
   have Yn:=qI c0
   have Yb:Hid (∀ q,YieldAt Fence.wide (n-1) Tryz.prog l #[.slice (some ⟨b,off+z*k,none⟩) z z] (World.drewN wr q) fun e W'=>(e = .returned (.bool true)∧J (jg N (k+1)) W'∧KpB Bs Bn (World.drewN wr q) W')∨(e = .returned (.bool false)∧Jx (jg N (k+1)) W')):=qI (fun q=>by
    have h1:=HY.o _ ⟨k,hlt⟩ _ (hJd _ _ q hJs) (by rw [zab hk];exact hlt)
    rw [← QT hlt] at h1
    exact h1)
   generalize hpp:z*k=p at hpk Ya Yb
   generalize hLL:z*N=L at c0 hpk hcap
   have Mj:=qI hLL
   have Dj:=qI hk
   clear hJs hlt hk hpp hY HY
   have hp1:(p:Int)+(z:Int)≤(L:Int):=Ws
   have hp2:(L:Int)≤(cap:Int):=Ws
   have hp3:¬ cap=p:=Ws
   have hz0:(1:Int)≤(z:Int):=Ws
   have hz1:(z:Int)≤64:=Ws
   have hcm:(cap:Int)≤9223372036854775807:=by have:=hcap2;simp only [maxLen] at this;omega
   have hmin:min (z:Int) ((L-p:Nat):Int)=(z:Int):=Ws
   clear hpk
   gi_wp2
   refine wpIn_wide.2 ?_
   go_quiet (fail)
   obtain⟨fn,tmps,assign,body,hy,hR⟩:=Yb.o nq
   gi_wp2
   refine hR.mono ?_
   rintro e W3 (⟨rfl,hJ3,hk3⟩ | ⟨rfl,hJx3⟩)
   ·have c1':=hk3.c1.trans (show (World.drewN wr nq).cell? ⟨Bn,0,none⟩=_ from c1)
    have Mk:=qI (hk3.c0.trans (show (World.drewN wr nq).cell? ⟨Bs,0,none⟩=_ from Yn.o))
    gi_wp2
    go_roundw
    case rel=>exact⟨k+1,by have:=Ym.o;omega,by rw [Ya.o];go_num,hJ3,by rw [← Mj.o];exact Mk.o,c1'⟩
    case measure=>simp [intOf];omega
   ·gi_wp2
    refine bodyPost_ret (results_none rfl _ _ _) rfl ?_
    exact⟨⟨_,rfl⟩,.inr ⟨_,trivial,hJx3⟩⟩
  ·obtain rfl:k=N:=by omega
   rw [KJ] at hJs
   generalize z*k=p at c0 hpk
   gi_wp2
   go_end0
   exact⟨⟨_,rfl⟩,.inl hJs⟩
theorem QW (W:World) (q:Nat):W.grownBy (World.drewN W q) none:=⟨rfl,rfl,rfl,Nat.le_refl _,fun _ _ _=>rfl⟩
theorem Qa (n Bs Bn N z:Nat) (hn:1≤n) (hz:1≤z) (hz2:z≤64) (hN:N≤256) (a:Option Addr) (b off cap:Nat) (ha:0<N→a=some ⟨b,off,none⟩) (hcap:z*N≤cap) (hcap2:cap≤maxLen) (w:World) (hBs:w.cell? ⟨Bs,0,none⟩=some (.slice a (z*N) cap)) (hBn:w.cell? ⟨Bn,0,none⟩=some (.int .i64 z)) :
  SeqStopsK Fence.wide n Tryz.prog 174 #[.pointer (some ⟨Bs,0,none⟩),.pointer (some ⟨Bn,0,none⟩)] (fun x:Fin N=>#[.slice (some ⟨b,off+z*x.val,none⟩) z z]) (KpB Bs Bn) (fun ys=>ys=List.finRange N) (fun _=>True) N w:=fun l J Jx W hW hJ _ hY h0=>
 chunkB_in n l Bs Bn N z hn hz hz2 hN a b off cap ha hcap hcap2 J Jx (fun pre W q h=>hJ pre W _ none h (QW W q) (fun r e=>nomatch e)) hY W
  ((hW.cell (p:=⟨Bs,0,none⟩) (World.block_lt_of_cell? w _ hBs)).trans hBs) ((hW.cell (p:=⟨Bn,0,none⟩) (World.block_lt_of_cell? w _ hBn)).trans hBn) h0
theorem J3 (a:Option Addr) (L cap z:Nat) (hz:1≤z) (hz2:z≤64) (w:World) :
  Calls Tryz.prog 135 #[.slice a L cap,.int .i64 z] w fun e w'=>e = .returned (.func (.func 174) #[] #[.pointer (some ⟨w.heap.size,0,none⟩),.pointer (some ⟨w.heap.size+1,0,none⟩)])∧(w.alloc (.cells #[.slice a L cap] 53)).alloc (.cells #[.int .i64 z] 3)=w':=by
 have hz1:(1:Int)≤(z:Int):=Ws
 have hz3:(z:Int)≤64:=Ws
 clear hz hz2
 go_enter func135,ntmps135
 go_wp2_with fail
 go_ret
 exact⟨rfl,rfl⟩
attribute [local go_sem] Oper.semAt_some
def ckA (l:List UInt8) (i:Nat):List UInt8:=((l.drop (64*i)).take 64).take 32
def ckB (l:List UInt8) (i:Nat):List UInt8:=((l.drop (64*i)).take 64).drop 32
theorem ck_len {l:List UInt8}{N i:Nat}(h:l.length=64*N) (hi:i<N):(ckA l i).length=32∧(ckB l i).length=32:=by
 have h1:64*(i+1)≤64*N:=Nat.mul_le_mul_left 64 hi
 unfold ckA ckB
 rw [List.length_take,List.length_drop,List.length_take,List.length_drop]
 omega
theorem ck_row {w:World}{b off:Nat}{l:List UInt8}{N i:Nat}(h:Row w b off (l.map bv)) (hl:l.length=64*N) (hi:i<N):w.rangeAt b (off+64*i) ((ckA l i).map bv)∧w.rangeAt b (off+64*i+32) ((ckB l i).map bv):=by
 have h1:64*(i+1)≤64*N:=Nat.mul_le_mul_left 64 hi
 refine⟨fun j v hv=>?_,fun j v hv=>?_⟩
 ·have hj:j<32:=by
   have:=(List.getElem?_eq_some_iff.1 hv).1
   rw [List.length_map,(ck_len hl hi).1] at this
   exact this
  rw [Nat.add_assoc]
  refine h.cells (64*i+j) v ?_
  rw [List.getElem?_map] at hv ⊢
  unfold ckA at hv
  rw [List.getElem?_take,if_pos hj,List.getElem?_take,if_pos Ws,List.getElem?_drop] at hv
  exact hv
 ·have hj:j<32:=by
   have:=(List.getElem?_eq_some_iff.1 hv).1
   rw [List.length_map,(ck_len hl hi).2] at this
   exact this
  rw [Nat.add_assoc,Nat.add_assoc]
  refine h.cells (64*i+(32+j)) v ?_
  rw [List.getElem?_map] at hv ⊢
  unfold ckB at hv
  rw [List.getElem?_drop,List.getElem?_take,if_pos Ws,List.getElem?_drop] at hv
  exact hv
theorem ck_all (l:List UInt8) (N:Nat):(List.finRange N).map (fun i=>ckA l i.val)=(jD N l).rev∧(List.finRange N).map (fun i=>ckB l i.val)=(jD N l).oth:=by
 have h:∀ f:Nat→List UInt8,(List.finRange N).map (fun i=>f i.val)=(List.range N).map f:=fun f=>by
  apply List.ext_getElem
  ·simp
  ·intro i h1 h2;simp
 refine⟨?_,?_⟩
 ·rw [h (ckA l)];unfold jD vy ckA;simp only [List.map_map];rfl
 ·rw [h (ckB l)];unfold jD vy ckB;simp only [List.map_map];rfl
theorem qW.grown {W w w':World}{g:Nat}{a1:Option Addr}{c1:Nat}{a2:Option Addr}{c2:Nat}{r o:List (List UInt8)}{row:Option Nat}(h:qW W g w a1 c1 a2 c2 r o) (hg:w.grownBy w' row) (hr:∀ k,row=some k→W.heap.size≤k∧∃ ob:Obj,w.heap[k]? = some ob∧ob.isCells=false):qW W g w' a1 c1 a2 c2 r o:=by
 have hk:zb row.toList w w':=(zb.refl _ w).grown hg (fun k e=>.inl (by simp [e]))
 have hx:∀ k c t f,w.heap[k]? = some (.cells c t f)→k ∉ row.toList:=fun k c t f hc hm=>by
  obtain⟨ob,h1,h2⟩:=(hr k (Option.mem_toList.1 hm)).2
  rw [hc] at h1
  cases h1
  cases h2
 refine⟨h.kept.trans hk (fun i hi=>.inr (hr i (Option.mem_toList.1 hi)).1),h.new_,hk.heap h.box (hx _ _ _ _ h.box),zo h.rev hk (fun b e=>?_),zo h.oth hk (fun b e=>?_),h.apart⟩
 ·rcases h.rev.2 with ⟨e2,_⟩ | ⟨g',cap,cur,e2,_,hh,_⟩
  ·rw [e2] at e;cases e
  ·rw [e2] at e;cases e;exact hx _ _ _ _ hh
 ·rcases h.oth.2 with ⟨e2,_⟩ | ⟨g',cap,cur,e2,_,hh,_⟩
  ·rw [e2] at e;cases e
  ·rw [e2] at e;cases e;exact hx _ _ _ _ hh
theorem KeepsFrom.of_kept {B:Nat}{X:List Nat}{w w':World}(h:zb X w w') (hX:∀ k,k∈X→∃ c t f,w.heap[k]? = some (.cells c t f)):KeepsFrom B w w':=
 ⟨h.size,fun k o _ hk ho=>h.heap hk (fun hm=>by
  obtain⟨c,t,f,h1⟩:=hX k hm
  rw [hk] at h1
  cases h1
  cases ho)⟩
theorem kD {w:World}{base e size:Nat}{v:Value}{n:Nat}{xs:List Value}(h:w.ownsRow base e size v n xs) {b:Nat}(hb:v.ownBlock=some b):∃ c t f,w.heap[b]? = some (.cells c t f):=by
 rcases h.2 with ⟨e2,_⟩ | ⟨g',cap,cur,e2,_,hh,_⟩
 ·rw [e2] at hb;cases hb
 ·rw [e2] at hb;cases hb;exact⟨_,_,_,hh⟩
structure DecR (N:Nat) (l:List UInt8) (W0:World) (gb:Nat) (pre:List (Fin N)) (W:World):Prop where
 val:∃ a1 c1 a2 c2,qW W0 gb W a1 c1 a2 c2 (pre.map fun i=>ckA l i.val) (pre.map fun i=>ckB l i.val)
 box0:∃ c f,W.heap[gb+1]? = some (.cells c 53 f)
 box1:∃ c f,W.heap[gb+2]? = some (.cells c 3 f)
theorem lamDecode_any {w:World}{a:Option Addr}{c N:Nat}{l:List UInt8}(hb:zp w (.slice a l.length c) l) (hN:l.length=64*N) (hmb:yv N=true) :
  Calls Tryz.prog 136 #[.slice a l.length c] w fun e w'=>(∃ a1 c1 a2 c2,e = .returned (.tuple #[.agg #[.slice a1 N c1,.slice a2 N c2],.int .i64 0])∧Slc w' 32 (.slice a1 N c1) N ((jD N l).rev.flatten.map bv)∧Slc w' 32 (.slice a2 N c2) N ((jD N l).oth.flatten.map bv)∧(∀ g,zW (.slice a1 N c1)=some g→w.heap.size≤g)∧(∀ g,zW (.slice a2 N c2)=some g→w.heap.size≤g))∧zb [] w w':=by
 have hn8:8≤N∧N≤256:=by
  unfold yv at hmb
  simp only [Bool.and_eq_true,decide_eq_true_eq] at hmb
  omega
 obtain⟨bk,off,rfl,hcap,hrow⟩:=xy (size:=1) hb Ws
 have hcm:c≤maxLen:=by
  obtain⟨a',c',h3,-,h4⟩:=hb.form
  simp only [Value.slice.injEq] at h3
  omega
 obtain⟨W1,Gh⟩:∃ W1,Hid (W1=w.alloc (.cells #[.slice none 0 0,.slice none 0 0] 80)):=⟨_,qI rfl⟩
 have Gt:Hid (zb [] w W1):=qI (kA1 Gh.o)
 have Mb:Hid (W1.heap[w.heap.size]? = some (.cells #[.slice none 0 0,.slice none 0 0] 80 (0,0))):=qI (by rw [Gh.o];exact zd rfl)
 have hS1:W1.heap.size=w.heap.size+1:=by rw [Gh.o];simp
 have CM:Hid (Calls Tryz.prog 68 #[.int .i64 N] W1 fun e w'=>e = .returned (.bool true)∧W1=w'):=qI (by have h1:=jU N Ws Ws W1;rw [hmb] at h1;exact h1)
 obtain⟨W3,Ml⟩:∃ W3,Hid (W3=W1.alloc (.cells #[.slice none 0 0,.slice none 0 0] 80)):=⟨_,qI rfl⟩
 have Yc:Hid (qW W1 W1.heap.size W3 none 0 none 0 [] []):=qI (by rw [Ml.o];exact out_new W1)
 have hS3:W3.heap.size=W1.heap.size+1:=by rw [Ml.o];simp
 have CH:=qI (J3 (some ⟨bk,off,none⟩) l.length c 64 Wo Wo W3)
 have Gk:=qI hrow
 have HN:=qI hN
 have Yd:=qI hn8
 have HC:=qI (And.intro hcap hcm)
 have hq1:((l.length:Int)%64)=0:=Ws
 have hq2:((l.length:Int)/64)=(N:Int):=Ws
 clear hb hrow hmb hcap hcm
 refine callsIn_wide.1 (callsIn_of_wp_marks (F:=Fence.wide) (n:=3) func136 rfl trivial ?_ rfl)
 refine wpIn_wide.2 ?_
 simp only [ntmps136,List.size_toArray,List.length_cons,List.length_nil,Nat.reduceAdd,Nat.reduceSub,Array.replicate_succ,Array.replicate_zero,List.push_toArray,List.append_toArray,List.nil_append,List.cons_append]
 generalize hL:l.length=L at CH hq1 hq2
 have Mj:=qI hL
 clear hL
 go_upto_region 1 with fail
 rw [← Gh.o]
 go_upto_region 4 with (go_at_call 68;refine CM.o.mono ?_;rintro e w' ⟨rfl,rfl⟩)
 rw [← Ml.o]
 go_wp2_with (go_at_call 135;refine CH.o.mono ?_;rintro e w' ⟨rfl,rfl⟩)
 rw [hS1] at Yc
 obtain⟨W4,Gu⟩:∃ W4,Hid (W4=(W3.alloc (.cells #[.slice (some ⟨bk,off,none⟩) L c] 53)).alloc (.cells #[.int .i64 64] 3)):=⟨_,qI rfl⟩
 have hS4:W4.heap.size=w.heap.size+4:=by rw [Gu.o];simp;omega
 have Mc:Hid (W4.heap[w.heap.size+1+1]? = some (.cells #[.slice (some ⟨bk,off,none⟩) L c] 53 (0,0))):=qI (by
  rw [Gu.o]
  exact ((zb.refl [] _).alloc _).heap (zd Ws) Wz)
 have Md:Hid (W4.heap[w.heap.size+1+2]? = some (.cells #[.int .i64 64] 3 (0,0))):=qI (by
  rw [Gu.o]
  exact zd (by rw [World.size_alloc];omega))
 have hB0:W4.cell? ⟨w.heap.size+1+1,0,none⟩=some (.slice (some ⟨bk,off,none⟩) (64*N) c):=by
  rw [Gu.o,← HN.o,Mj.o]
  exact ((zb.refl [] _).alloc _).cell (za (zd Ws) rfl) Wz
 have hB1:W4.cell? ⟨w.heap.size+1+1+1,0,none⟩=some (.int .i64 64):=by
  rw [Gu.o]
  exact za (zd (by rw [World.size_alloc];omega)) rfl
 have Yo:Hid (qW W1 (w.heap.size+1) W4 none 0 none 0 [] []):=qI (Yc.o.kept0 (kA2 Gu.o))
 rw [← Gu.o]
 refine (wpIn_wide (n:=3)).1 ?_
 refine wpIn_rangeFunc_ownG (F:=Fence.wide) (n:=3) rfl Wo (gf:=174) (lb:=#[.pointer (some ⟨w.heap.size+1+1,0,none⟩),.pointer (some ⟨w.heap.size+1+1+1,0,none⟩)]) rfl trivial (enters_of func174 Wr rfl)
  (Qa 2 (w.heap.size+1+1) (w.heap.size+1+1+1) N 64 Wo Wo Wo Yd.o.2 (some ⟨bk,off,none⟩) bk off c (fun _=>rfl) (by rw [← HN.o];exact HC.o.1) HC.o.2 W4 hB0 hB1)
  (fun h k=>⟨k.1.trans h.1,k.2.trans h.2⟩) (fun W l o o' hl _ _ _=>⟨World.putObj_heap_other Ws,World.putObj_heap_other Ws⟩) (Below.refl _ _) (fun _=>rfl)
  (fun pre W=>DecR N l W1 (w.heap.size+1) pre W) (fun _ _ _=>False)
  (fun pre A B row hs hg hr=>by
   obtain⟨a1,c1,a2,c2,h⟩:=hs.val
   have hne:∀ k c t f,A.heap[k]? = some (Obj.cells c t f)→B.heap[k]? = some (Obj.cells c t f):=fun k c t f hc=>(hg.block k (lt_of_block hc) (fun e=>by
    obtain⟨ob,h1,h2⟩:=(hr k e.symm).2
    rw [hc] at h1
    cases h1
    cases h2)).trans hc
   obtain⟨d0,f0,e0⟩:=hs.box0
   obtain⟨d1,f1,e1⟩:=hs.box1
   exact⟨⟨a1,c1,a2,c2,h.grown hg (fun k e=>⟨by have:=(hr k e).1;omega,(hr k e).2⟩)⟩,⟨d0,f0,hne _ _ _ _ e0⟩,⟨d1,f1,hne _ _ _ _ e1⟩⟩)
  (fun _ _ _ _ _ hs _ _=>hs)
  ⟨⟨none,0,none,0,Yo.o⟩,⟨_,_,Mc.o⟩,⟨_,_,Md.o⟩⟩
  (fun x=>{ tmps:=#[.slice (some ⟨bk,off,none⟩) L c,undef,.pointer (some ⟨w.heap.size,0,none⟩),.int .i64 0,.pointer (some ⟨w.heap.size+1,0,none⟩),.slice (some ⟨bk,off+64*x.val,none⟩) 64 64,.slice (some ⟨bk,off,none⟩) L c,.int .i64 L,.int .i64 0,.bool false,.bool false,.slice (some ⟨bk,off,none⟩) L c,.int .i64 L,.int .i64 N,.bool true,.bool false,.bool false,undef,.slice (some ⟨bk,off,none⟩) L c,.func (.func 174) #[] #[.pointer (some ⟨w.heap.size+1+1,0,none⟩),.pointer (some ⟨w.heap.size+1+1+1,0,none⟩)],.slice (some ⟨bk,off+64*x.val,none⟩) 64 64,undef,undef,undef,undef,undef,undef,undef,undef,undef,undef,undef,undef,undef,undef,undef,undef,undef,undef,undef],defers:=[] }) ?assign ?body ?done ?stop
 case assign=>
  intro l' x W K hK
  gi_wp2
  exact hK
 case body=>
  rintro l' pre xi W ⟨⟨a1,c1,a2,c2,hoa⟩,⟨d0,e0,hd0⟩,⟨d1',e1,hd1'⟩⟩ hlen
  have Gv:=qI hd0
  have Gw:=qI hd1'
  have Gg:=qI hoa
  obtain⟨hx1,hx2⟩:=ck_len HN.o xi.isLt
  obtain⟨hr1,hr2⟩:=ck_row (i:=xi.val) (Gk.o.kept (Gt.o.then hoa.kept) Wz) HN.o xi.isLt
  have Gl:=qI hx1
  have Me:=qI hx2
  have Gx:=qI hr1
  have Gy:Hid (W1.rangeAt bk (off+64*xi.val+32) ((ckB l xi.val).map bv)):=qI (ck_row (i:=xi.val) (Gk.o.kept Gt.o Wz) HN.o xi.isLt).2
  have Gb:Hid ((pre.map fun i=>ckA l i.val).length=pre.length):=qI Wz
  have Gi:Hid ((pre.map fun i=>ckB l i.val).length=pre.length):=qI Wz
  have f0:W.cell? ⟨w.heap.size+1,0,none⟩=some (.slice a1 pre.length c1):=by
   have h9:=za (o:=0) (v:=.slice a1 (pre.map fun i=>ckA l i.val).length c1) hoa.box rfl
   rw [Gb.o] at h9
   exact h9
  have Yp:=qI hlen
  have Gz:Hid (((pre++[xi]).map fun i=>ckA l i.val)=(pre.map fun i=>ckA l i.val)++[ckA l xi.val]):=qI Wz
  have Mm:Hid (((pre++[xi]).map fun i=>ckB l i.val)=(pre.map fun i=>ckB l i.val)++[ckB l xi.val]):=qI Wz
  generalize ckA l xi.val=x1 at Gl Gx Gz
  generalize ckB l xi.val=x2 at Me Gy Mm
  have Gd:Hid (pre.length≤256):=qI (by have:=Yd.o;omega)
  generalize (pre.map fun i=>ckA l i.val)=rv at Gg Gb Gz
  generalize (pre.map fun i=>ckB l i.val)=ot at Gg Gi Mm
  generalize pre.length=m at f0 Gb Gi Gd
  generalize off+64*xi.val=q at Gx Gy
  clear hoa hx1 hx2 hr1 hr2 hlen hd0 hd1'
  gi_wp2
  refine vK (k:=40) 7 [fI (.pointer (some ⟨w.heap.size+1,0,none⟩)),
   fI (.slice a1 m c1),
   fI (.slice (some ⟨bk,q,none⟩) 64 64),
   fI (.slice (some ⟨bk,q,none⟩) 32 64),
   fI (.pointer (some ⟨bk,q,none⟩)),
   fI (.agg (x1.map bv).toArray),
   xD (x1.map bv) 1 32] Wr Wr (fun⟨_,_,h⟩=>h) rfl Wr (fun x=>yH) ?_ ?_
  ·refine⟨?_,?_,?_,?_,?_,?_,?_,trivial⟩ <;> intro x w2 hkw b hd
   ·exact ze
   ·have d0:x 0=_:=hd 0 Wr
    have y0:=hkw.cell f0 Wz
    exact ze
   ·exact ze
   ·have d2:x 2=_:=hd 2 Wr
    exact ze
   ·have d3:x 3=_:=hd 3 Wr
    have d3:x 3=_:=hd 3 Wr
    go_wp2_with fail
    rename_i hK
    exact hK _ _ ⟨rfl,_,by simp only [Nat.zero_add,Nat.reduceAdd,d3],rfl,Wd⟩
   ·have d4:x 4=_:=hd 4 Wr
    have d4:x 4=_:=hd 4 Wr
    change wpList _ _ _ [_] _ _
    refine zS Wk _ rfl (g:=bk) (of:=q) (fun j v hv=>hkw.cell (Gx.o j v hv) Wz) Gl.o d4 ?_
    exact⟨rfl,_,rfl,rfl,Wd⟩
   ·have d5:x 5=_:=hd 5 Wr
    have d5:x 5=_:=hd 5 Wr
    change wpList _ _ _ [_] _ _
    refine yB underlying73 xU jx Wo Wo Wk _ rfl (cs:=x1.map bv) (by simp [Gl.o]) d5 ?_
    exact⟨rfl,_,rfl,⟨w2.heap.size,rfl,Nat.le_refl _,Wz,zT w2 (x1.map bv) 32 1 _ _ rfl (by simp [Gl.o]) Wo⟩,Wd.alloc _⟩
  ·intro x w7 hkw b7 hd hwin
   have d1:x 1=_:=hd 1 Wo
   obtain⟨g9,d6,-,-,hsl⟩:=hd 6 Wo
   have Jn:=qI hsl
   have Mn:=qI (Gg.o.kept0 hkw)
   have Jo:=qI hkw
   clear hd hwin hkw hsl
   change wpList _ _ _ [_,_,_] _ _
   go_wp2_with (at_builtin;refine zk YE (v:=.slice a1 m c1) (n:=m) (xs:=rv.flatten.map bv) (by have h9:=Mn.o.rev;rw [Gb.o] at h9;exact h9) Jn.o (yL _) (by have:=Gd.o;simp only [maxLen];omega) (by have:=Gd.o;omega) Mn.o.kept.size rfl _ _ rfl d1 d6 ?_;intro v5 w8 hown hk5 _ hb5;obtain⟨a5,c5,rfl,-,-⟩:=(Slc.of_row hown).form;have Mf:=qI hk5;obtain⟨u0,uf,ho8⟩:=Mn.o.push0 (x:=x1) (a5:=a5) (c5:=c5) (by rw [Gb.o];exact hown) (by rw [Gb.o];exact hk5) (by rw [Gb.o];exact hb5);rw [Gb.o] at u0 ho8;rw [← Gz.o] at ho8;have Mg:=qI ho8;clear hown hk5 hb5 ho8)
   have Jp:Hid (zb ((w.heap.size+1)::(Value.slice a1 m c1).ownBlock.toList) W (w8.setCell ⟨w.heap.size+1,0,none⟩ (.slice a5 (m+1) c5))):=qI ((((Jo.o.mono Wz).trans' (Mf.o.mono (fun k h=>List.mem_cons_of_mem _ h)))).setCell (.inl Wz) _)
   generalize w8.setCell ⟨w.heap.size+1,0,none⟩ (.slice a5 (m+1) c5)=w9 at Mg Jp
   have f1:=za (o:=1) Mg.o.box rfl
   rw [Gi.o] at f1
   have Yq:Hid (w9.rangeAt bk (q+32) (x2.map bv)):=qI (fun j v hv=>(Mg.o.kept).cell (Gy.o j v hv) Wz)
   gi_wp2
   refine vK (k:=40) 7 [fI (.pointer (some ⟨w.heap.size+1,1,none⟩)),
    fI (.slice a2 m c2),
    fI (.slice (some ⟨bk,q,none⟩) 64 64),
    fI (.slice (some ⟨bk,q+32,none⟩) 32 32),
    fI (.pointer (some ⟨bk,q+32,none⟩)),
    fI (.agg (x2.map bv).toArray),
    xD (x2.map bv) 1 32] Wr Wr (fun⟨_,_,h⟩=>h) rfl Wr (fun x=>yH) ?_ ?_
   ·refine⟨?_,?_,?_,?_,?_,?_,?_,trivial⟩ <;> intro x w2 hkw b hd
    ·exact ze
    ·have d0:x 0=_:=hd 0 Wr
     have y0:=hkw.cell f1 Wz
     exact ze
    ·exact ze
    ·have d2:x 2=_:=hd 2 Wr
     exact ze
    ·have d3:x 3=_:=hd 3 Wr
     have d3:x 3=_:=hd 3 Wr
     go_wp2_with fail
     rename_i hK
     exact hK _ _ ⟨rfl,_,by simp only [Nat.zero_add,Nat.reduceAdd,d3],rfl,Wd⟩
    ·have d4:x 4=_:=hd 4 Wr
     have d4:x 4=_:=hd 4 Wr
     change wpList _ _ _ [_] _ _
     refine zS Wk _ rfl (g:=bk) (of:=q+32) (fun j v hv=>hkw.cell (Yq.o j v hv) Wz) Me.o d4 ?_
     exact⟨rfl,_,rfl,rfl,Wd⟩
    ·have d5:x 5=_:=hd 5 Wr
     have d5:x 5=_:=hd 5 Wr
     change wpList _ _ _ [_] _ _
     refine yB underlying73 xU jx Wo Wo Wk _ rfl (cs:=x2.map bv) (by simp [Me.o]) d5 ?_
     exact⟨rfl,_,rfl,⟨w2.heap.size,rfl,Nat.le_refl _,Wz,zT w2 (x2.map bv) 32 1 _ _ rfl (by simp [Me.o]) Wo⟩,Wd.alloc _⟩
   ·intro x w17 hkw b17 hd hwin
    have d1:x 1=_:=hd 1 Wo
    obtain⟨g9,d6,-,-,hsl⟩:=hd 6 Wo
    have Jn:=qI hsl
    have Ge:=qI (Mg.o.kept0 hkw)
    have Gm:=qI hkw
    clear hd hwin hkw hsl
    change wpList _ _ _ [_,_,_] _ _
    go_wp2_with (at_builtin;refine zk YE (v:=.slice a2 m c2) (n:=m) (xs:=ot.flatten.map bv) (by have h9:=Ge.o.oth;rw [Gi.o] at h9;exact h9) Jn.o (yL _) (by have:=Gd.o;simp only [maxLen];omega) (by have:=Gd.o;omega) Ge.o.kept.size rfl _ _ rfl d1 d6 ?_;intro v6 w18 hown hk6 _ hb6;obtain⟨a6,c6,rfl,-,-⟩:=(Slc.of_row hown).form;have Jg:=qI hk6;obtain⟨u0,uf,ho18⟩:=Ge.o.push1 (x:=x2) (a5:=a6) (c5:=c6) (by rw [Gi.o];exact hown) (by rw [Gi.o];exact hk6) (by rw [Gi.o];exact hb6);rw [Gi.o] at u0 ho18;rw [← Mm.o] at ho18;have Ja:=qI ho18;clear hown hk6 hb6 ho18)
    have Ga:zb ((w.heap.size+1)::((Value.slice a1 m c1).ownBlock.toList++(Value.slice a2 m c2).ownBlock.toList)) W (w18.setCell ⟨w.heap.size+1,1,none⟩ (.slice a6 (m+1) c6)):=
     ((((Jp.o.mono (fun k h=>(List.mem_cons.1 h).elim (fun h=>by rw [h];simp) (fun h=>List.mem_cons_of_mem _ (List.mem_append_left _ h)))).then Gm.o).trans' (Jg.o.mono (fun k h=>List.mem_cons_of_mem _ (List.mem_append_right _ h))))).setCell (.inl Wz) _
    have hcl:∀ k,k∈(w.heap.size+1)::((Value.slice a1 m c1).ownBlock.toList++(Value.slice a2 m c2).ownBlock.toList)→∃ c t f,W.heap[k]? = some (.cells c t f):=fun k hk=>by
     rcases List.mem_cons.1 hk with rfl | hk
     ·exact⟨_,_,_,Gg.o.box⟩
     rcases List.mem_append.1 hk with hk | hk
     ·exact kD Gg.o.rev (by rw [Gb.o];exact Option.mem_toList.1 hk)
     ·exact kD Gg.o.oth (by rw [Gi.o];exact Option.mem_toList.1 hk)
    have hn0:∀ k d t e,W.heap[k]? = some (.cells d t e)→t≠45→k≠w.heap.size+1→k ∉ (w.heap.size+1)::((Value.slice a1 m c1).ownBlock.toList++(Value.slice a2 m c2).ownBlock.toList):=fun k d t e h1 h2 h3 hk=>by
     rcases List.mem_cons.1 hk with hk | hk
     ·exact h3 hk
     rcases List.mem_append.1 hk with hk | hk
     ·have h4:=yp Gg.o.rev (by rw [Gb.o];exact Option.mem_toList.1 hk)
      rw [zM h1] at h4
      exact h2 (Nat.add_right_cancel h4)
     ·have h4:=yp Gg.o.oth (by rw [Gi.o];exact Option.mem_toList.1 hk)
      rw [zM h1] at h4
      exact h2 (Nat.add_right_cancel h4)
    have h8:=hn0 _ _ _ _ Gv.o Wo Ws
    have h9:=hn0 _ _ _ _ Gw.o Wo Ws
    exact⟨KeepsFrom.of_kept Ga hcl,⟨Ga.block _ (lt_of_block Gv.o) h8,Ga.block _ (lt_of_block Gw.o) h9⟩,⟨⟨a5,c5,a6,c6,Ja.o⟩,⟨_,_,Ga.heap Gv.o h8⟩,⟨_,_,Ga.heap Gw.o h9⟩⟩⟩
 case done=>
  rintro D xs W hD rfl ⟨⟨a1,c1,a2,c2,hoa⟩,-,-⟩ hK
  rw [(ck_all l N).1,(ck_all l N).2] at hoa
  obtain⟨hl1,hl2⟩:=Y6 N l
  have Gg:=qI hoa
  have f0:=za (o:=0) hoa.box rfl
  have f1:=za (o:=1) hoa.box rfl
  rw [hl1] at f0
  rw [hl2] at f1
  have Jh:=qI (hoa.kept.heap Mb.o Wz)
  have r0:=za (o:=0) Jh.o rfl
  have r1:=za (o:=1) Jh.o rfl
  have z:∀ j,W.frozen? ⟨w.heap.size,j,none⟩=false:=fun j=>zh Jh.o
  clear hoa
  gi_wp2
  go_wp2_with fail
  change bodyPostM _ _ _ _ _ _ _ (put2 W w.heap.size (.slice a1 N c1) (.slice a2 N c2))
  have Ga:=jQ W w.heap.size (.slice a1 N c1) (.slice a2 N c2)
  have Mh:=Kp Jh.o (.slice a1 N c1) (.slice a2 N c2)
  have hKD:=Ga.heap hK (by simp;omega)
  generalize put2 W w.heap.size (.slice a1 N c1) (.slice a2 N c2)=WF at Ga Mh hKD
  have Gj:zb [D] WF (WF.putObj D (.deferred none)):=Wd.grown (grownBy_putObj' WF D (.deferred none)) (fun k e=>by cases e;exact .inl Wz)
  refine⟨Wz,.inl ⟨_,_,rfl,run_takeDeferred hKD,?_⟩⟩
  have Gn:=Gj.heap Mh (by simp;omega)
  generalize WF.putObj D (.deferred none)=WZ at Gj Gn
  have y0:=za (o:=0) Gn rfl
  have y1:=za (o:=1) Gn rfl
  have e1:=Gg.o.rev
  have e2:=Gg.o.oth
  rw [hl1] at e1
  rw [hl2] at e2
  have hDk:∀ g,kind W g=45+2→g≠D:=fun g hg e=>by
   subst e
   simp [Go.Proofs.YtibnfbglanpoiaaGreatDoor.kind,hK] at hg
  have hr:∀ {v:Value}{xs:List Value},W.ownsRow W1.heap.size 45 32 v N xs→Slc WZ 32 v N xs∧∀ g,v.ownBlock=some g→w.heap.size≤g:=fun {v xs} h=>by
   refine⟨Slc.of_row (zo (zo h Ga (fun g hg hx=>by have h3:=(h.lt g hg).1;simp at hx;omega)) Gj (fun g hg hx=>by simp at hx;exact hDk g (yp h hg) hx)),fun g hg=>?_⟩
   have:=(h.lt g hg).1
   omega
  refine⟨.tuple #[.agg #[.slice a1 N c1,.slice a2 N c2],.int .i64 0],by simp [results,results136,go_sem,y0,y1],⟨a1,c1,a2,c2,rfl,(hr e1).1,(hr e2).1,fun g hg=>(hr e1).2 g (z6 hg),fun g hg=>(hr e2).2 g (z6 hg)⟩,?_⟩
  exact ((Gt.o.then Gg.o.kept).trans Ga (by intro i hi;simp at hi;subst hi;exact .inr (Nat.le_refl _))).trans Gj (by intro i hi;simp at hi;subst hi;exact .inr Ws)
 case stop=>
  rintro D c' pre W _ _ h _
  exact h.elim
attribute [local go_sem] Oper.semAt_some
theorem rd_chain (n1 n2:Nat) (b:List UInt8):((rdB n2 (rdB n1 (rdN b).2.1 (rdN b).2.2).2.1 (rdB n1 (rdN b).2.1 (rdN b).2.2).2.2).2.2=false∧(rdB n2 (rdB n1 (rdN b).2.1 (rdN b).2.2).2.1 (rdB n1 (rdN b).2.1 (rdN b).2.2).2.2).2.1=[])↔b.length=4+n1+n2:=by
 unfold rdN
 by_cases h4:4≤b.length
 ·rw [if_pos h4]
  unfold rdB
  by_cases h1:n1≤(b.drop 4).length∧false=false
  ·rw [if_pos h1]
   dsimp only
   by_cases h2:n2≤((b.drop 4).drop n1).length∧false=false
   ·rw [if_pos h2]
    dsimp only
    have h3:=h2.1
    have h5:=h1.1
    simp only [List.length_drop] at h3 h5
    rw [← List.length_eq_zero_iff]
    simp only [List.length_drop,true_and]
    omega
   ·rw [if_neg h2]
    dsimp only
    have h3:¬ n2≤((b.drop 4).drop n1).length:=fun h=>h2 ⟨h,rfl⟩
    have h5:=h1.1
    simp only [List.length_drop] at h3 h5
    simp only [Bool.true_eq_false,false_and,false_iff]
    omega
  ·rw [if_neg h1]
   dsimp only
   have h5:¬ n1≤(b.drop 4).length:=fun h=>h1 ⟨h,rfl⟩
   simp only [List.length_drop] at h5
   have h6:(if n2≤([]:List UInt8).length∧true=false then (([]:List UInt8).take n2,([]:List UInt8).drop n2,false) else ([],[],true))=([],[],true):=if_neg (fun h=>by cases h.2)
   rw [h6]
   simp only [Bool.true_eq_false,false_and,false_iff]
   omega
 ·rw [if_neg h4]
  unfold rdB
  dsimp only
  have h6:∀ n,(if n≤([]:List UInt8).length∧true=false then (([]:List UInt8).take n,([]:List UInt8).drop n,false) else ([],[],true))=([],[],true):=fun n=>if_neg (fun h=>by cases h.2)
  rw [h6 n1]
  dsimp only
  rw [h6 n2]
  simp only [Bool.true_eq_false,false_and,false_iff]
  omega
theorem Kj (n1 n2:Nat) (b:List UInt8) (h:b.length=4+n1+n2):(rdN b).1=jG (b.take 4)∧(rdB n1 (rdN b).2.1 (rdN b).2.2).1=(b.drop 4).take n1∧(rdB n2 (rdB n1 (rdN b).2.1 (rdN b).2.2).2.1 (rdB n1 (rdN b).2.1 (rdN b).2.2).2.2).1=(b.drop (4+n1)).take n2:=by
 unfold rdN
 rw [if_pos Ws]
 unfold rdB
 dsimp only
 rw [if_pos ⟨by rw [List.length_drop];omega,rfl⟩]
 dsimp only
 rw [if_pos ⟨by rw [List.length_drop,List.length_drop];omega,rfl⟩]
 refine⟨rfl,rfl,?_⟩
 rw [List.drop_drop]
structure vB (W:World) (g:Nat) (w:World) (lf:Int) (a:Option Addr) (c:Nat) (ps:List (List UInt8)):Prop where
 kept:zb [g] W w
 box:w.heap[g]? = some (.cells #[.int .i64 lf,.slice none 0 0,.slice none 0 0,.slice a ps.length c] 82 (0,0))
 row:w.ownsRow W.heap.size 45 32 (.slice a ps.length c) ps.length (ps.flatten.map bv)
theorem vB.kept0 {W w w':World}{g:Nat}{lf:Int}{a:Option Addr}{c:Nat}{ps:List (List UInt8)}(h:vB W g w lf a c ps) (k:zb [] w w'):vB W g w' lf a c ps:=
 ⟨h.kept.then k,k.heap h.box Wz,zo h.row k Wz⟩
theorem vB.push {W w w':World}{g:Nat}{lf:Int}{a:Option Addr}{c:Nat}{ps:List (List UInt8)}(h:vB W g w lf a c ps) {x:List UInt8}{a5:Option Addr}{c5:Nat}
  (hown:w'.ownsRow W.heap.size 45 32 (.slice a5 (ps.length+1) c5) (ps.length+1) (ps.flatten.map bv++x.map bv)) (hk:zb (Value.slice a ps.length c).ownBlock.toList w w') :
  w'.cell? ⟨g,3,none⟩=some (.slice a ps.length c)∧w'.frozen? ⟨g,3,none⟩=false∧vB W g (w'.setCell ⟨g,3,none⟩ (.slice a5 (ps.length+1) c5)) lf a5 c5 (ps++[x]):=by
 have hng:g ∉ (Value.slice a ps.length c).ownBlock.toList:=fun hx=>xt (yp h.row (Option.mem_toList.1 hx)) (zM h.box) Wo rfl
 have hb8:=hk.heap h.box hng
 have hst:zb [g] w' (w'.setCell ⟨g,3,none⟩ (.slice a5 (ps.length+1) c5)):=Wd.setCell (.inl Wz) _
 have hel:(ps++[x]).length=ps.length+1:=Wz
 have hef:((ps++[x]).flatten).map bv=ps.flatten.map bv++x.map bv:=Wz
 refine⟨za hb8 rfl,zh hb8,⟨?_,?_,?_⟩⟩
 ·exact ((h.kept.trans hk (fun i hi=>.inr (h.row.lt i (Option.mem_toList.1 hi)).1))).setCell (.inl Wz) _
 ·rw [hel];exact zg hb8 rfl
 ·rw [hel,hef]
  exact zo hown hst (fun b e hx=>by
   simp at hx;subst hx
   exact xt (yp hown e) (zM hb8) Wo rfl)
theorem vB.grown {W w w':World}{g:Nat}{lf:Int}{a:Option Addr}{c:Nat}{ps:List (List UInt8)}{row:Option Nat}(h:vB W g w lf a c ps) (hg:w.grownBy w' row) (hr:∀ k,row=some k→W.heap.size≤k∧∃ ob:Obj,w.heap[k]? = some ob∧ob.isCells=false):vB W g w' lf a c ps:=by
 have hk:zb row.toList w w':=(zb.refl _ w).grown hg (fun k e=>.inl (by simp [e]))
 have hx:∀ k c t f,w.heap[k]? = some (.cells c t f)→k ∉ row.toList:=fun k c t f hc hm=>by
  obtain⟨ob,h1,h2⟩:=(hr k (Option.mem_toList.1 hm)).2
  rw [hc] at h1
  cases h1
  cases h2
 refine⟨h.kept.trans hk (fun i hi=>.inr (hr i (Option.mem_toList.1 hi)).1),hk.heap h.box (hx _ _ _ _ h.box),zo h.row hk (fun b e=>?_)⟩
 obtain⟨c,t,f,h1⟩:=kD h.row e
 exact hx _ _ _ _ h1
theorem cut_row {w:World}{b off n:Nat}{l:List UInt8}{N i:Nat}(h:Row w b off (l.map bv)) (hl:l.length=n*N) (hi:i<N):w.rangeAt b (off+n*i) (((l.drop (n*i)).take n).map bv)∧((l.drop (n*i)).take n).length=n:=by
 have h1:n*(i+1)≤n*N:=Nat.mul_le_mul_left n hi
 rw [Nat.mul_add] at h1
 refine⟨fun j v hv=>?_,by rw [List.length_take,List.length_drop];omega⟩
 have hj:j<n:=by
  have:=(List.getElem?_eq_some_iff.1 hv).1
  rw [List.length_map,List.length_take] at this
  omega
 rw [Nat.add_assoc]
 refine h.cells (n*i+j) v ?_
 rw [List.getElem?_map] at hv ⊢
 rw [List.getElem?_take,if_pos hj,List.getElem?_drop] at hv
 exact hv
theorem cut_all (n N:Nat) (l:List UInt8):(List.finRange N).map (fun i=>(l.drop (n*i.val)).take n)=vy n N l:=by
 unfold vy
 apply List.ext_getElem
 ·simp
 ·intro i h1 h2;simp
structure WayR (N:Nat) (l:List UInt8) (W0:World) (gs:Nat) (lf:Int) (B:Nat) (pre:List (Fin N)) (W:World):Prop where
 val:∃ a c,vB W0 gs W lf a c (pre.map fun i=>(l.drop (32*i.val)).take 32)
 box0:∃ c f,W.heap[B]? = some (.cells c 53 f)
 box1:∃ c f,W.heap[B+1]? = some (.cells c 3 f)
def ju (w w':World) (e:Ending) (k:zY) (b:List UInt8):Prop:=
 if zI k=true∧qZ k.bits.toNat k.height.toNat b=true then
  ∃ a1 c1 a2 c2 a3 c3,e = .returned (.tuple #[.agg #[.int .i64 (xS k.bits.toNat k.height.toNat b).leaf,.slice a1 k.bits.toNat c1,.slice a2 k.bits.toNat c2,.slice a3 k.height.toNat c3],.int .i64 0]) ∧
   Slc w' 32 (.slice a1 k.bits.toNat c1) k.bits.toNat ((xS k.bits.toNat k.height.toNat b).one.rev.flatten.map bv)∧Slc w' 32 (.slice a2 k.bits.toNat c2) k.bits.toNat ((xS k.bits.toNat k.height.toNat b).one.oth.flatten.map bv)∧Slc w' 32 (.slice a3 k.height.toNat c3) k.height.toNat ((xS k.bits.toNat k.height.toNat b).way.flatten.map bv)
 else ∃ z:Int,z≠0∧-1000≤z∧z≤1000∧e = .returned (.tuple #[.agg #[.int .i64 0,.slice none 0 0,.slice none 0 0,.slice none 0 0],.int .i64 z])
attribute [local go_sem] Oper.semAt_some
abbrev vu (w:World) (g:Nat) (n:Int) (a b c:Value):Prop:=w.heap[g]? = some (.cells #[.int .i64 n,a,b,c] 82 (0,0))
def vE (w:World) (g:Nat) (n:Int) (a b c:Value):World:=(((w.setCell ⟨g,0,none⟩ (.int .i64 n)).setCell ⟨g,1,none⟩ a).setCell ⟨g,2,none⟩ b).setCell ⟨g,3,none⟩ c
theorem qS (w:World) (g:Nat) (n:Int) (a b c:Value):zb [g] w (vE w g n a b c):=((((zb.refl [g] w).setCell (.inl Wz) _).setCell (.inl Wz) _).setCell (.inl Wz) _).setCell (.inl Wz) _
theorem jE {w:World}{g:Nat}{c0 c1 c2 c3:Value}{t:Nat}{f:Nat×Nat}(h:w.heap[g]? = some (.cells #[c0,c1,c2,c3] t f)) (n:Int) (a b c:Value):(vE w g n a b c).heap[g]? = some (.cells #[.int .i64 n,a,b,c] t f):=by
 unfold vE
 have h1:=zg (i:=0) (v:=.int .i64 n) (d:=#[.int .i64 n,c1,c2,c3]) h rfl
 have h2:=zg (i:=1) (v:=a) (d:=#[.int .i64 n,a,c2,c3]) h1 rfl
 have h3:=zg (i:=2) (v:=b) (d:=#[.int .i64 n,a,b,c3]) h2 rfl
 exact zg (i:=3) (v:=c) (d:=#[.int .i64 n,a,b,c]) h3 rfl
theorem sigDecode_any {w:World}(k:zY) (hbk:qX k.bits) (hr:k.root.length=32) {a:Option Addr}{c:Nat}{l:List UInt8}(hb:zp w (.slice a l.length c) l) (hll:l.length≤1000000) :
  Calls Tryz.prog 101 #[.agg (ye k),.slice a l.length c] w fun e w'=>ju w w' e k l∧zb [] w w':=by
 obtain⟨W1,Gh⟩:∃ W1,Hid (W1=(w.alloc (.cells (ye k) 47)).alloc (.cells #[.int .i64 0,.slice none 0 0,.slice none 0 0,.slice none 0 0] 82)):=⟨_,qI rfl⟩
 have Gt:Hid (zb [] w W1):=qI (kA2 Gh.o)
 have HA:Hid (yw W1 w.heap.size k):=qI (by rw [Gh.o];exact ((zb.refl [] _).alloc _).heap (zd rfl) Wz)
 have Mb:Hid (vu W1 (w.heap.size+1) 0 (.slice none 0 0) (.slice none 0 0) (.slice none 0 0)):=qI (by rw [Gh.o];exact zd Wz)
 have hS1:W1.heap.size=w.heap.size+2:=by rw [Gh.o];simp
 have CM:=qI (vJ k hbk W1)
 have Ye:=qI hr
 have Jb:Hid (∀ (w':World) (e:Ending) (z:Int),z≠0→-1000≤z→z≤1000→¬ (zI k=true∧qZ k.bits.toNat k.height.toNat l=true)→e = .returned (.tuple #[.agg #[.int .i64 0,.slice none 0 0,.slice none 0 0,.slice none 0 0],.int .i64 z])→ju w w' e k l):=qI (fun w' e z h1 h2 h3 h4 h5=>by unfold ju;rw [if_neg h4];exact⟨z,h1,h2,h3,h5⟩)
 by_cases hm:zI k=true
 rotate_left
 ·have Yr:Hid (¬ (zI k=true∧qZ k.bits.toNat k.height.toNat l=true)):=qI (fun h=>hm h.1)
  have hmf:zI k=false:=by cases h:zI k <;> simp_all
  rw [hmf] at CM
  clear hbk hr hb hll hm hmf
  generalize l.length=ln
  go_enter func101,ntmps101
  go_upto_region 1 with fail
  refine yq Gh.o ?_
  go_wp2_with first
   | (refine zO Wk (.tmp 2) Wk HA.o Ye.o Wk ?_)
   | (go_at_call 35;refine CM.o.mono ?_;rintro e w2 ⟨rfl,hk2⟩;have hb2:=hk2.heap Mb.o Wz;have Mh:=qI hb2;have r0:=za (o:=0) hb2 rfl;have r1:=za (o:=1) hb2 rfl;have r2:=za (o:=2) hb2 rfl;have r3:=za (o:=3) hb2 rfl;have z:∀ j,w2.frozen? ⟨w.heap.size+1,j,none⟩=false:=fun j=>zh hb2;have Jq:=qI hk2;clear hk2 hb2)
  change bodyPost _ _ _ _ _ (vE w2 (w.heap.size+1) 0 (.slice none 0 0) (.slice none 0 0) (.slice none 0 0))
  have Ga:=qS w2 (w.heap.size+1) 0 (.slice none 0 0) (.slice none 0 0) (.slice none 0 0)
  have Gc:=jE Mh.o 0 (.slice none 0 0) (.slice none 0 0) (.slice none 0 0)
  generalize vE w2 (w.heap.size+1) 0 (.slice none 0 0) (.slice none 0 0) (.slice none 0 0)=WF at Ga Gc
  have y0:=za (o:=0) Gc rfl
  have y1:=za (o:=1) Gc rfl
  have y2:=za (o:=2) Gc rfl
  have y3:=za (o:=3) Gc rfl
  refine bodyPost_ret (v:=.tuple #[.agg #[.int .i64 0,.slice none 0 0,.slice none 0 0,.slice none 0 0],.int .i64 1]) (by simp [results,results101,go_sem,y0,y1,y2,y3]) rfl ⟨Jb.o _ _ 1 Wo Wo Wo Yr.o rfl,?_⟩
  exact (Gt.o.then Jq.o).trans Ga (by intro i hi;simp at hi;subst hi;exact .inr Ws)
 rw [hm] at CM
 have hm2:=hm
 unfold zI yv at hm2
 simp only [Bool.and_eq_true,decide_eq_true_eq] at hm2
 obtain⟨nb,hnb⟩:∃ nb:Nat,k.bits=(nb:Int):=⟨k.bits.toNat,Ws⟩
 obtain⟨nh,hnh⟩:∃ nh:Nat,k.height=(nh:Int):=⟨k.height.toNat,Ws⟩
 have hmb:yv nb=true:=by
  unfold zI at hm
  rw [hnb] at hm
  simp only [Bool.and_eq_true] at hm
  exact hm.1
 have hnbI:(nb:Int)≤256:=Ws
 have hnhI:(nh:Int)≤6:=Ws
 have Yf:=qI (And.intro hnb hnh)
 have Ys:=qI hmb
 have Mo:=qI hm
 have CF:=qI (fun (w2:World) (hk:zb [] W1 w2)=>from_any (w:=w2) ((hb.kept0 Gt.o).kept0 hk) (by unfold lim;omega))
 obtain⟨R1,Gf⟩:∃ R1,Hid (R1=rdN l):=⟨_,qI rfl⟩
 obtain⟨R2,Gp⟩:∃ R2,Hid (R2=rdB (64*nb) R1.2.1 R1.2.2):=⟨_,qI rfl⟩
 obtain⟨R3,Jc⟩:∃ R3,Hid (R3=rdB (32*nh) R2.2.1 R2.2.2):=⟨_,qI rfl⟩
 obtain⟨n2,Ji⟩:∃ n2,Hid (R2.1.length=n2):=⟨_,qI rfl⟩
 obtain⟨n3,Jr⟩:∃ n3,Hid (R3.1.length=n3):=⟨_,qI rfl⟩
 have Js:Hid (R1.2.1.length≤1000000):=qI (by rw [Gf.o];unfold rdN;split <;> simp <;> omega)
 have Mp:Hid (R2.2.1.length≤1000000):=qI (by have h9:=Js.o;rw [Gp.o];unfold rdB;split <;> simp <;> omega)
 have CI:Hid (∀ (w2:World) (p:Nat),jH w2 p l false→Calls Tryz.prog 132 #[.pointer (some ⟨p,0,none⟩),.int .i64 4] w2 fun e w'=>e = .returned (.int .i64 R1.1)∧jH w' p R1.2.1 R1.2.2∧zb [p] w2 w'):=qI (fun w2 p h=>by rw [Gf.o];exact rdInt_any h (by unfold lim;omega))
 have CB1:Hid (∀ (w2:World) (p:Nat),jH w2 p R1.2.1 R1.2.2→Calls Tryz.prog 133 #[.pointer (some ⟨p,0,none⟩),.int .i64 (64*(nb:Int))] w2 fun e w'=>(∃ a c,e = .returned (.slice a n2 c)∧zp w' (.slice a n2 c) R2.1∧(∀ g,zW (.slice a n2 c)=some g→w2.heap.size≤g))∧jH w' p R2.2.1 R2.2.2∧zb [p] w2 w'):=qI (fun w2 p h=>by
  have h1:=Zr h (64*nb) Ws (by have:=Js.o;unfold lim;omega)
  rw [← Gp.o,Ji.o,show ((64*nb:Nat):Int)=64*(nb:Int) by omega] at h1
  exact h1)
 have CB2:Hid (∀ (w2:World) (p:Nat),jH w2 p R2.2.1 R2.2.2→Calls Tryz.prog 133 #[.pointer (some ⟨p,0,none⟩),.int .i64 (32*(nh:Int))] w2 fun e w'=>(∃ a c,e = .returned (.slice a n3 c)∧zp w' (.slice a n3 c) R3.1∧(∀ g,zW (.slice a n3 c)=some g→w2.heap.size≤g))∧jH w' p R3.2.1 R3.2.2∧zb [p] w2 w'):=qI (fun w2 p h=>by
  have h1:=Zr h (32*nh) Ws (by have:=Mp.o;unfold lim;omega)
  rw [← Jc.o,Jr.o,show ((32*nh:Nat):Int)=32*(nh:Int) by omega] at h1
  exact h1)
 have CD:Hid (∀ (w2:World) (p:Nat),jH w2 p R3.2.1 R3.2.2→Calls Tryz.prog 134 #[.pointer (some ⟨p,0,none⟩)] w2 fun e w'=>e = .returned (.int .i64 (if R3.2.2=false∧R3.2.1=[] then 0 else 11))∧w2=w'):=qI (fun w2 p h=>rdDone_any h)
 have Yg:Hid ((R3.2.2=false∧R3.2.1=[])↔l.length=4+64*nb+32*nh):=qI (by rw [Jc.o,Gp.o,Gf.o];exact rd_chain _ _ _)
 have Jj:Hid (k.bits.toNat=nb∧k.height.toNat=nh):=qI Ws
 have hlb:(R1.1:Int)<4294967296:=by
  have h1:R1.1<4294967296:=by
   rw [Gf.o];unfold rdN
   split
   ·have h2:=Kl (l.take 4)
    rw [List.length_take,Nat.min_eq_left Ws] at h2
    exact h2
   ·decide
  omega
 clear hm2 hm hnb hnh hmb hb hr hbk
 generalize hD:(if R3.2.2=false∧R3.2.1=[] then (0:Int) else 11)=D at CD
 generalize hln:l.length=ln at CF
 have Yh:=qI hD
 clear hD
 have Yp:=qI hln
 clear hln
 refine callsIn_wide.1 (callsIn_of_wp_marks (F:=Fence.wide) (n:=3) func101 rfl trivial ?_ rfl)
 refine wpIn_wide.2 ?_
 simp only [ntmps101,List.size_toArray,List.length_cons,List.length_nil,Nat.reduceAdd,Nat.reduceSub,Array.replicate_succ,Array.replicate_zero,List.push_toArray,List.append_toArray,List.nil_append,List.cons_append]
 go_upto_region 1 with fail
 refine yq Gh.o ?_
 go_upto_region 4 with first
  | (refine zO Wk (.tmp 2) Wk HA.o Ye.o Wk ?_)
  | (go_at_call 35;refine CM.o.mh ?_;rintro e w2 rfl Jq)
  | (go_at_call 131;refine (CF.o _ Jq.o).mono ?_;rintro e w3 ⟨⟨p,hp,rfl,hrd⟩,hk3⟩;have Mq:=qI hrd;have Yt:Hid (zb [] W1 w3):=qI (Jq.o.then hk3);have HP:Hid (w.heap.size+2≤p):=qI (by have:=Jq.o.size;omega);clear hk3 hrd hp)
 go_upto_region 5 with (go_at_call 132;refine (CI.o _ _ Mq.o).mono ?_;rintro e w4 ⟨rfl,hrd,hk4⟩;have Jt:=qI hrd;have Yu:=qI hk4;clear hk4 hrd)
 obtain⟨W5,Mr⟩:∃ W5,Hid (W5=w4.alloc (.cells #[.int .i64 R1.1,.slice none 0 0,.slice none 0 0,.slice none 0 0] 82)):=⟨_,qI rfl⟩
 have HK5a:Hid (zb [] w4 W5):=qI (kA1 Mr.o)
 have Mf:Hid (zb [p] W1 W5):=qI (((Yt.o.mono Wz).trans' Yu.o).then HK5a.o)
 have Ms:Hid (vu W5 w4.heap.size R1.1 (.slice none 0 0) (.slice none 0 0) (.slice none 0 0)):=qI (by rw [Mr.o];exact zd rfl)
 have Mt:=qI (Jt.o.kept0 HK5a.o)
 have Gd:Hid (p<w4.heap.size):=qI Jt.o.lt
 rw [← Mr.o]
 have Yi:Hid (yw W5 w.heap.size k):=qI (Mf.o.heap HA.o (by have:=HP.o;simp;omega))
 have c0:=Yi.o.c0
 rw [Yf.o.1] at c0
 have Jd:Hid (w4.heap.size<W5.heap.size):=qI (lt_of_block Ms.o)
 generalize hgs:w4.heap.size=gs at Ms Gd Jd
 go_upto_region 6 with (go_at_call 133;refine (CB1.o _ _ Mt.o).mono ?_;rintro e w6 ⟨⟨a6,c6,rfl,hb6,hg6⟩,hrd,hk6⟩;have Yv:=qI hb6;have Yw:=qI hg6;have Mu:=qI hrd;have Jg:=qI hk6;clear hk6 hrd hb6 hg6)
 have Yx:Hid (yw w6 w.heap.size k):=qI (Jg.o.heap Yi.o (by have:=HP.o;simp;omega))
 clear c0
 have c1:=Yx.o.c1
 rw [Yf.o.2] at c1
 go_upto_region 7 with (go_at_call 133;refine (CB2.o _ _ Mu.o).mono ?_;rintro e w7 ⟨⟨a7,c7,rfl,hb7,hg7⟩,hrd,hk7⟩;have Yj:=qI hb7;have Yy:=qI hg7;have Je:=qI hrd;have Jo:=qI hk7;clear hk7 hrd hb7 hg7)
 clear c1
 have Mv:Hid (vu w7 gs R1.1 (.slice none 0 0) (.slice none 0 0) (.slice none 0 0)):=qI (Jo.o.heap (Jg.o.heap Ms.o (by have:=Gd.o;simp;omega)) (by have:=Gd.o;simp;omega))
 have Gm:Hid (zb [p] W1 w7):=qI ((Mf.o.trans' Jg.o).trans' Jo.o)
 have Gr:=qI (Gm.o.heap Mb.o (by have:=HP.o;simp;omega))
 have r0:=za (o:=0) Gr.o rfl
 have r1:=za (o:=1) Gr.o rfl
 have r2:=za (o:=2) Gr.o rfl
 have r3:=za (o:=3) Gr.o rfl
 have z:∀ j,w7.frozen? ⟨w.heap.size+1,j,none⟩=false:=fun j=>zh Gr.o
 have q0:=za (o:=0) Mv.o rfl
 have Jf:Hid (zb [] w w7):=qI (Gt.o.trans Gm.o (by intro i hi;simp at hi;subst hi;exact .inr (by have:=HP.o;omega)))
 have Ju:Hid (¬ (l.length=4+64*nb+32*nh∧R1.1≤1073741824)→¬ (zI k=true∧qZ k.bits.toNat k.height.toNat l=true)):=qI (fun h h2=>by
  have h3:=h2.2
  rw [Jj.o.1,Jj.o.2] at h3
  unfold qZ at h3
  simp only [Bool.and_eq_true,decide_eq_true_eq] at h3
  refine h ⟨h3.1,?_⟩
  rw [Gf.o,(Kj (64*nb) (32*nh) l h3.1).1]
  exact h3.2)
 by_cases hok:l.length=4+64*nb+32*nh
 rotate_left
 ·have hD11:D=11:=by rw [← Yh.o];exact if_neg (fun h=>hok (Yg.o.1 h))
  subst hD11
  go_wp2_with (go_at_call 134;refine (CD.o _ _ Je.o).mono ?_;rintro e w' ⟨rfl,rfl⟩)
  change bodyPostM _ _ _ _ _ _ _ (vE w7 (w.heap.size+1) 0 (.slice none 0 0) (.slice none 0 0) (.slice none 0 0))
  have Ga:=qS w7 (w.heap.size+1) 0 (.slice none 0 0) (.slice none 0 0) (.slice none 0 0)
  have Gc:=jE Gr.o 0 (.slice none 0 0) (.slice none 0 0) (.slice none 0 0)
  generalize vE w7 (w.heap.size+1) 0 (.slice none 0 0) (.slice none 0 0) (.slice none 0 0)=WF at Ga Gc
  have y0:=za (o:=0) Gc rfl
  have y1:=za (o:=1) Gc rfl
  have y2:=za (o:=2) Gc rfl
  have y3:=za (o:=3) Gc rfl
  refine⟨.tuple #[.agg #[.int .i64 0,.slice none 0 0,.slice none 0 0,.slice none 0 0],.int .i64 11],by simp [results,results101,go_sem,y0,y1,y2,y3],Jb.o _ _ 11 Wo Wo Wo (Ju.o (fun h=>hok h.1)) rfl,?_⟩
  exact Jf.o.trans Ga (by intro i hi;simp at hi;subst hi;exact .inr Ws)
 have hD0:D=0:=by rw [← Yh.o];exact if_pos (Yg.o.2 hok)
 subst hD0
 by_cases hlf:R1.1≤1073741824
 rotate_left
 ·have hlfI:(1073741824:Int)<R1.1:=by omega
  go_wp2_with (go_at_call 134;refine (CD.o _ _ Je.o).mono ?_;rintro e w' ⟨rfl,rfl⟩)
  change bodyPostM _ _ _ _ _ _ _ (vE w7 (w.heap.size+1) 0 (.slice none 0 0) (.slice none 0 0) (.slice none 0 0))
  have Ga:=qS w7 (w.heap.size+1) 0 (.slice none 0 0) (.slice none 0 0) (.slice none 0 0)
  have Gc:=jE Gr.o 0 (.slice none 0 0) (.slice none 0 0) (.slice none 0 0)
  generalize vE w7 (w.heap.size+1) 0 (.slice none 0 0) (.slice none 0 0) (.slice none 0 0)=WF at Ga Gc
  have y0:=za (o:=0) Gc rfl
  have y1:=za (o:=1) Gc rfl
  have y2:=za (o:=2) Gc rfl
  have y3:=za (o:=3) Gc rfl
  refine⟨.tuple #[.agg #[.int .i64 0,.slice none 0 0,.slice none 0 0,.slice none 0 0],.int .i64 11],by simp [results,results101,go_sem,y0,y1,y2,y3],Jb.o _ _ 11 Wo Wo Wo (Ju.o (fun h=>hlf h.2)) rfl,?_⟩
  exact Jf.o.trans Ga (by intro i hi;simp at hi;subst hi;exact .inr Ws)
 have hq:decide ((1073741824:Int)<(R1.1:Int))=false:=decide_eq_false Ws
 have Yz:=qI hlf
 obtain⟨v1,v2,v3⟩:=Kj (64*nb) (32*nh) l hok
 rw [← Gf.o] at v1 v2 v3
 rw [← Gp.o] at v2 v3
 rw [← Jc.o] at v3
 have Da:Hid (n2=64*nb):=qI (by rw [← Ji.o,v2,List.length_take,List.length_drop];omega)
 have Jv:Hid (n3=32*nh):=qI (by rw [← Jr.o,v3,List.length_take,List.length_drop];omega)
 have HV:=qI (And.intro v1 (And.intro v2 v3))
 have Jw:Hid (32*nh≤c7∧c7≤maxLen):=qI (by
  obtain⟨a',c',h3,h4,h5⟩:=Yj.o.form
  simp only [Value.slice.injEq] at h3
  obtain⟨-,-,rfl⟩:=h3
  exact⟨by rw [← Jv.o,← Jr.o];exact h4,h5⟩)
 obtain⟨bk,off,Yk,Gk⟩:∃ bk off,Hid (0<nh→a7=some ⟨bk,off,none⟩)∧Hid (0<nh→Row w7 bk off (R3.1.map bv)):=by
  rcases Nat.eq_zero_or_pos nh with h0 | h0
  ·exact⟨0,0,qI (fun h=>absurd h Ws),qI (fun h=>absurd h Ws)⟩
  ·obtain⟨g,o,h1,-,h2⟩:=xy (size:=1) (n:=n3) (by have h9:=Yj.o;unfold zp at h9;rw [Jr.o] at h9;exact h9) (by rw [Jv.o];omega)
   exact⟨g,o,qI (fun _=>h1),qI (fun _=>h2)⟩
 have CCH:=qI (J3 a7 n3 c7 32 Wo Wo w7)
 have Mw:=qI (fun (w9:World) (hb9:zp w9 (.slice a6 n2 c6) R2.1)=>(by
  have h9:=lamDecode_any (w:=w9) (N:=nb) (l:=R2.1) (by rw [Ji.o];exact hb9) (by rw [Ji.o];exact Da.o) Ys.o
  rw [Ji.o] at h9
  exact h9:_))
 have Mx:=qI hok
 clear v1 v2 v3 hok hlf hlb
 go_wp2_with first
  | (go_at_call 134;refine (CD.o _ _ Je.o).mono ?_;rintro e w' ⟨rfl,rfl⟩)
  | (go_at_call 135;refine CCH.o.mono ?_;rintro e w' ⟨rfl,rfl⟩)
 obtain⟨W8,Jy⟩:∃ W8,Hid (W8=(w7.alloc (.cells #[.slice a7 n3 c7] 53)).alloc (.cells #[.int .i64 32] 3)):=⟨_,qI rfl⟩
 have Jp:Hid (zb [] w7 W8):=qI (kA2 Jy.o)
 have Mc:Hid (W8.heap[w7.heap.size]? = some (.cells #[.slice a7 n3 c7] 53 (0,0))):=qI (by
  rw [Jy.o]
  exact ((zb.refl [] _).alloc _).heap (zd rfl) Wz)
 have Md:Hid (W8.heap[w7.heap.size+1]? = some (.cells #[.int .i64 32] 3 (0,0))):=qI (by
  rw [Jy.o]
  exact zd (by rw [World.size_alloc]))
 have hS8:Hid (W8.heap.size=w7.heap.size+2):=qI (by rw [Jy.o];simp)
 have Jk:Hid (gs<w7.heap.size):=qI (lt_of_block Mv.o)
 have Db:Hid (vB w7 gs W8 R1.1 none 0 []):=qI ⟨Jp.o.mono Wz,Jp.o.heap Mv.o Wz,World.ownsRow_nil _ _ _ _⟩
 rw [← Jy.o]
 refine (wpIn_wide (n:=3)).1 ?_
 refine wpIn_rangeFunc_ownG (F:=Fence.wide) (n:=3) rfl Wo (gf:=174) (lb:=#[.pointer (some ⟨w7.heap.size,0,none⟩),.pointer (some ⟨w7.heap.size+1,0,none⟩)]) rfl trivial (enters_of func174 Wr rfl)
  (Qa 2 w7.heap.size (w7.heap.size+1) nh 32 Wo Wo Wo Ws a7 bk off c7 Yk.o Jw.o.1 Jw.o.2 W8 (by rw [← Jv.o];exact za Mc.o rfl) (za Md.o rfl))
  (fun h k=>⟨k.1.trans h.1,k.2.trans h.2⟩) (fun W l o o' hl _ _ _=>⟨World.putObj_heap_other (by have:=hS8.o;omega),World.putObj_heap_other (by have:=hS8.o;omega)⟩) (Below.refl _ _) (fun _=>rfl)
  (fun pre W=>WayR nh R3.1 w7 gs R1.1 w7.heap.size pre W) (fun _ _ _=>False)
  (fun pre A B row hs hg hr=>by
   obtain⟨a1,c1,h⟩:=hs.val
   have hne:∀ k c t f,A.heap[k]? = some (Obj.cells c t f)→B.heap[k]? = some (Obj.cells c t f):=fun k c t f hc=>(hg.block k (lt_of_block hc) (fun e=>by
    obtain⟨ob,h1,h2⟩:=(hr k e.symm).2
    rw [hc] at h1
    cases h1
    cases h2)).trans hc
   obtain⟨d0,f0,e0⟩:=hs.box0
   obtain⟨d1,f1,e1⟩:=hs.box1
   exact⟨⟨a1,c1,h.grown hg (fun k e=>⟨by have:=(hr k e).1;have:=hS8.o;omega,(hr k e).2⟩)⟩,⟨d0,f0,hne _ _ _ _ e0⟩,⟨d1,f1,hne _ _ _ _ e1⟩⟩)
  (fun _ _ _ _ _ hs _ _=>hs)
  ⟨⟨none,0,Db.o⟩,⟨_,_,Mc.o⟩,⟨_,_,Md.o⟩⟩
  (fun x=>{ tmps:=#[.agg (ye k),.slice a ln c,.pointer (some ⟨w.heap.size,0,none⟩),undef,.pointer (some ⟨w.heap.size+1,0,none⟩),.int .i64 0,.pointer (some ⟨p,0,none⟩),.pointer (some ⟨gs,0,none⟩),.slice a6 n2 c6,.slice a7 n3 c7,.slice (some ⟨bk,off+32*x.val,none⟩) 32 32,.agg (ye k),.bool true,.bool false,undef,.slice a ln c,.pointer (some ⟨p,0,none⟩),.pointer (some ⟨p,0,none⟩),.int .i64 R1.1,.agg #[.int .i64 R1.1,.slice none 0 0,.slice none 0 0,.slice none 0 0],.pointer (some ⟨p,0,none⟩),.pointer (some ⟨w.heap.size,0,none⟩),.int .i64 nb,.int .i64 (64*(nb:Int)),.slice a6 n2 c6,.pointer (some ⟨p,0,none⟩),.pointer (some ⟨w.heap.size,1,none⟩),.int .i64 nh,.int .i64 (32*(nh:Int)),.slice a7 n3 c7,.pointer (some ⟨p,0,none⟩),.int .i64 0,.bool false,.bool false,.pointer (some ⟨gs,0,none⟩),.int .i64 R1.1,.bool false,.bool false,undef,.slice a7 n3 c7,.func (.func 174) #[] #[.pointer (some ⟨w7.heap.size,0,none⟩),.pointer (some ⟨w7.heap.size+1,0,none⟩)],.slice (some ⟨bk,off+32*x.val,none⟩) 32 32,undef,undef,undef,undef,undef,undef,undef,undef,undef,undef,undef,undef,undef,undef,undef],defers:=[] }) ?assign ?body ?done ?stop
 case assign=>
  intro l' x W K hK
  gi_wp2
  exact hK
 case body=>
  rintro l' pre xi W ⟨⟨a3,c3,hpa⟩,⟨d0,e0,hd0⟩,⟨d1',e1,hd1'⟩⟩ hlen
  have Gv:=qI hd0
  have Gw:=qI hd1'
  have Gs:=qI hpa
  have hrw:=Gk.o Ws
  have hbg:gs≠bk:=fun e=>by
   have h1:=Yk.o Ws
   have h2:=Yy.o bk (by rw [h1];exact ji (by rw [Jv.o];omega))
   have:=Jg.o.size
   have:=Jd.o
   omega
  obtain⟨hr1,hx1⟩:=cut_row (i:=xi.val) (hrw.kept hpa.kept (by simp;exact fun e=>hbg e.symm)) (by rw [Jr.o];exact Jv.o) xi.isLt
  have Gl:=qI hx1
  have Gx:=qI hr1
  have Gb:Hid ((pre.map fun i=>(R3.1.drop (32*i.val)).take 32).length=pre.length):=qI Wz
  have f0:W.cell? ⟨gs,3,none⟩=some (.slice a3 pre.length c3):=by
   have h9:=za (o:=3) (v:=.slice a3 (pre.map fun i=>(R3.1.drop (32*i.val)).take 32).length c3) hpa.box rfl
   rw [Gb.o] at h9
   exact h9
  have Gz:Hid (((pre++[xi]).map fun i=>(R3.1.drop (32*i.val)).take 32)=(pre.map fun i=>(R3.1.drop (32*i.val)).take 32)++[(R3.1.drop (32*xi.val)).take 32]):=qI Wz
  generalize (R3.1.drop (32*xi.val)).take 32=x1 at Gl Gx Gz
  have Gd:Hid (pre.length≤256):=qI Ws
  generalize (pre.map fun i=>(R3.1.drop (32*i.val)).take 32)=rv at Gs Gb Gz
  generalize pre.length=m at f0 Gb Gd
  generalize off+32*xi.val=q at Gx
  clear hpa hx1 hr1 hrw hlen hd0 hd1' r0 r1 r2 r3 z q0 hq
  gi_wp2
  refine vK (k:=57) 6 [fI (.pointer (some ⟨gs,3,none⟩)),
   fI (.slice a3 m c3),
   fI (.slice (some ⟨bk,q,none⟩) 32 32),
   fI (.pointer (some ⟨bk,q,none⟩)),
   fI (.agg (x1.map bv).toArray),
   xD (x1.map bv) 1 32] Wr Wr (fun⟨_,_,h⟩=>h) rfl Wr (fun x=>yH) ?_ ?_
  ·refine⟨?_,?_,?_,?_,?_,?_,trivial⟩ <;> intro x w2 hkw b hd
   ·exact ze
   ·have d0:x 0=_:=hd 0 Wr
    have y0:=hkw.cell f0 Wz
    exact ze
   ·exact ze
   ·have d2:x 2=_:=hd 2 Wr
    have d2:x 2=_:=hd 2 Wr
    go_wp2_with fail
    rename_i hK
    exact hK _ _ ⟨rfl,_,by simp only [Nat.zero_add,Nat.reduceAdd,d2],rfl,Wd⟩
   ·have d3:x 3=_:=hd 3 Wr
    have d3:x 3=_:=hd 3 Wr
    change wpList _ _ _ [_] _ _
    refine zS Wk _ rfl (g:=bk) (of:=q) (fun j v hv=>hkw.cell (Gx.o j v hv) Wz) Gl.o d3 ?_
    exact⟨rfl,_,rfl,rfl,Wd⟩
   ·have d4:x 4=_:=hd 4 Wr
    have d4:x 4=_:=hd 4 Wr
    change wpList _ _ _ [_] _ _
    refine yB underlying73 xU jx Wo Wo Wk _ rfl (cs:=x1.map bv) (by simp [Gl.o]) d4 ?_
    exact⟨rfl,_,rfl,⟨w2.heap.size,rfl,Nat.le_refl _,Wz,zT w2 (x1.map bv) 32 1 _ _ rfl (by simp [Gl.o]) Wo⟩,Wd.alloc _⟩
  ·intro x w17 hkw b17 hd hwin
   have d1:x 1=_:=hd 1 Wo
   obtain⟨g9,d5,-,-,hsl⟩:=hd 5 Wo
   have Jn:=qI hsl
   have Ge:=qI (Gs.o.kept0 hkw)
   have Jz:=qI hkw
   clear hd hwin hkw hsl
   change wpList _ _ _ [_,_,_] _ _
   go_wp2_with (at_builtin;refine zk YE (v:=.slice a3 m c3) (n:=m) (xs:=rv.flatten.map bv) (by have h9:=Ge.o.row;rw [Gb.o] at h9;exact h9) Jn.o (yL _) (by have:=Gd.o;simp only [maxLen];omega) (by have:=Gd.o;omega) Ge.o.kept.size rfl _ _ rfl d1 d5 ?_;intro v6 w18 hown hk6 _ hb6;obtain⟨a8,c8,rfl,-,-⟩:=(Slc.of_row hown).form;have My:=qI hk6;obtain⟨u0,uf,ho18⟩:=Ge.o.push (x:=x1) (a5:=a8) (c5:=c8) (by rw [Gb.o];exact hown) (by rw [Gb.o];exact hk6);rw [Gb.o] at u0 ho18;rw [← Gz.o] at ho18;have Ja:=qI ho18;clear hown hk6 hb6 ho18)
   have Ga:zb (gs::(Value.slice a3 m c3).ownBlock.toList) W (w18.setCell ⟨gs,3,none⟩ (.slice a8 (m+1) c8)):=
    (((Jz.o.mono Wz).trans' (My.o.mono (fun k h=>List.mem_cons_of_mem _ h)))).setCell (.inl Wz) _
   have hcl:∀ k,k∈gs::(Value.slice a3 m c3).ownBlock.toList→∃ c t f,W.heap[k]? = some (.cells c t f):=fun k hk=>by
    rcases List.mem_cons.1 hk with rfl | hk
    ·exact⟨_,_,_,Gs.o.box⟩
    ·exact kD Gs.o.row (by rw [Gb.o];exact Option.mem_toList.1 hk)
   have hn0:∀ k d t e,W.heap[k]? = some (.cells d t e)→t≠45→k≠gs→k ∉ gs::(Value.slice a3 m c3).ownBlock.toList:=fun k d t e h1 h2 h3 hk=>by
    rcases List.mem_cons.1 hk with hk | hk
    ·exact h3 hk
    ·have h4:=yp Gs.o.row (by rw [Gb.o];exact Option.mem_toList.1 hk)
     rw [zM h1] at h4
     exact h2 (Nat.add_right_cancel h4)
   have h8:=hn0 _ _ _ _ Gv.o Wo (by have:=Jk.o;omega)
   have h9:=hn0 _ _ _ _ Gw.o Wo (by have:=Jk.o;omega)
   exact⟨KeepsFrom.of_kept Ga hcl,⟨Ga.block _ (lt_of_block Gv.o) h8,Ga.block _ (lt_of_block Gw.o) h9⟩,⟨⟨a8,c8,Ja.o⟩,⟨_,_,Ga.heap Gv.o h8⟩,⟨_,_,Ga.heap Gw.o h9⟩⟩⟩
 case done=>
  rintro D xs W hD rfl ⟨⟨a3,c3,hpa⟩,-,-⟩ hK
  rw [cut_all] at hpa
  have hlw:(vy 32 nh R3.1).length=nh:=K3 _ _ _
  have Gs:=qI hpa
  have Mi:Hid (w7.heap.size+2≤D):=qI (by have:=hS8.o;omega)
  have hbox:vu W gs R1.1 (.slice none 0 0) (.slice none 0 0) (.slice a3 nh c3):=by
   have h9:=hpa.box
   rw [hlw] at h9
   exact h9
  have Dc:=qI hbox
  have Jh:=qI (hpa.kept.heap Gr.o (by have:=Gd.o;have:=HP.o;simp;omega))
  have Yl:=qI hK
  have Dd:Hid (zp W (.slice a6 n2 c6) R2.1):=qI (by
   have h1:∀ g,zW (.slice a6 n2 c6)=some g→g≠p∧g≠gs:=fun g hg=>by
    have h2:=Yw.o g hg
    have h3:=Jd.o
    have h4:=Gd.o
    omega
   have h5:=Yv.o
   unfold zp at h5 ⊢
   rw [Ji.o] at h5 ⊢
   exact (h5.kept Jo.o (fun g hg=>by simpa using (h1 g hg).1)).kept hpa.kept (fun g hg=>by simpa using (h1 g hg).2))
  have CL:=qI (Mw.o W Dd.o)
  clear hpa hbox hK r0 r1 r2 r3 z q0 hq
  gi_wp2
  go_upto_region 13 with (go_at_call 136;refine CL.o.mono ?_;rintro e w10 ⟨⟨a1,c1,a2,c2,rfl,hs1,hs2,hg1,hg2⟩,hk10⟩;have De:=qI hs1;have Df:=qI hs2;have Dg:=qI hg1;have Dh:=qI hg2;have Gq:=qI hk10;have hb10:=hk10.heap Dc.o Wz;have g1:=za (o:=1) hb10 rfl;have g2:=za (o:=2) hb10 rfl;have gz:∀ j,w10.frozen? ⟨gs,j,none⟩=false:=fun j=>zh hb10;have Mz:=qI hb10;clear hs1 hs2 hg1 hg2 hk10 hb10)
  have Jl:Hid (zb [gs] w10 ((w10.setCell ⟨gs,1,none⟩ (.slice a1 nb c1)).setCell ⟨gs,2,none⟩ (.slice a2 nb c2))):=qI (((zb.refl [gs] w10).setCell (.inl Wz) _).setCell (.inl Wz) _)
  have Ma:Hid (vu ((w10.setCell ⟨gs,1,none⟩ (.slice a1 nb c1)).setCell ⟨gs,2,none⟩ (.slice a2 nb c2)) gs R1.1 (.slice a1 nb c1) (.slice a2 nb c2) (.slice a3 nh c3)):=qI (by
   have h1:=zg (i:=1) (v:=.slice a1 nb c1) (d:=#[.int .i64 R1.1,.slice a1 nb c1,.slice none 0 0,.slice a3 nh c3]) Mz.o rfl
   exact zg (i:=2) (v:=.slice a2 nb c2) (d:=#[.int .i64 R1.1,.slice a1 nb c1,.slice a2 nb c2,.slice a3 nh c3]) h1 rfl)
  clear g1 g2 gz
  generalize (w10.setCell ⟨gs,1,none⟩ (.slice a1 nb c1)).setCell ⟨gs,2,none⟩ (.slice a2 nb c2)=WG at Jl Ma
  have Jm:=qI (Jl.o.heap (Gq.o.heap Jh.o Wz) (by have:=Gd.o;have:=HP.o;simp;omega))
  have g0:=za (o:=0) Ma.o rfl
  have g1:=za (o:=1) Ma.o rfl
  have g2:=za (o:=2) Ma.o rfl
  have g3:=za (o:=3) Ma.o rfl
  have r0:=za (o:=0) Jm.o rfl
  have r1:=za (o:=1) Jm.o rfl
  have r2:=za (o:=2) Jm.o rfl
  have r3:=za (o:=3) Jm.o rfl
  have rz:∀ j,WG.frozen? ⟨w.heap.size+1,j,none⟩=false:=fun j=>zh Jm.o
  go_wp2_with fail
  change bodyPostM _ _ _ _ _ _ _ (vE WG (w.heap.size+1) R1.1 (.slice a1 nb c1) (.slice a2 nb c2) (.slice a3 nh c3))
  have Ga:=qS WG (w.heap.size+1) R1.1 (.slice a1 nb c1) (.slice a2 nb c2) (.slice a3 nh c3)
  have Gc:=jE Jm.o R1.1 (.slice a1 nb c1) (.slice a2 nb c2) (.slice a3 nh c3)
  have hKD:(vE WG (w.heap.size+1) R1.1 (.slice a1 nb c1) (.slice a2 nb c2) (.slice a3 nh c3)).heap[D]? = some (.deferred (some [])):=Ga.heap (Jl.o.heap (Gq.o.heap Yl.o Wz) (by have:=Mi.o;have:=Jk.o;simp;omega)) (by have:=Mi.o;have:=Jk.o;have:=Gd.o;have:=HP.o;simp;omega)
  generalize vE WG (w.heap.size+1) R1.1 (.slice a1 nb c1) (.slice a2 nb c2) (.slice a3 nh c3)=WF at Ga Gc hKD
  have Gj:zb [D] WF (WF.putObj D (.deferred none)):=Wd.grown (grownBy_putObj' WF D (.deferred none)) (fun k e=>by cases e;exact .inl Wz)
  refine⟨Wz,.inl ⟨_,_,rfl,run_takeDeferred hKD,?_⟩⟩
  have Gn:=Gj.heap Gc (by have:=Mi.o;have:=Jk.o;have:=Gd.o;have:=HP.o;simp;omega)
  generalize WF.putObj D (.deferred none)=WZ at Gj Gn
  have y0:=za (o:=0) Gn rfl
  have y1:=za (o:=1) Gn rfl
  have y2:=za (o:=2) Gn rfl
  have y3:=za (o:=3) Gn rfl
  have hWD:W.heap[D]? = some (.deferred (some [])):=Yl.o
  have hord:w.heap.size+2≤gs∧gs<w7.heap.size∧w7.heap.size+2≤D:=⟨by have:=Gd.o;have:=HP.o;omega,Jk.o,Mi.o⟩
  have hall:∀ {v:Value}{xs:List Value},Slc w10 32 v nb xs→(∀ g,zW v=some g→W.heap.size≤g)→Slc WZ 32 v nb xs:=fun {v xs} h h2=>by
   have hDW:=lt_of_block hWD
   exact ((h.kept Jl.o (fun g hg hx=>by have:=h2 g hg;simp at hx;omega)).kept Ga (fun g hg hx=>by have:=h2 g hg;simp at hx;omega)).kept Gj (fun g hg hx=>by have:=h2 g hg;simp at hx;omega)
  have hrow3:=Gs.o.row
  rw [hlw] at hrow3
  have hway:Slc WZ 32 (.slice a3 nh c3) nh ((vy 32 nh R3.1).flatten.map bv):=by
   have hb9:∀ g,zW (.slice a3 nh c3)=some g→w7.heap.size≤g∧g≠D:=fun g hg=>by
    have h1:=z6 hg
    refine⟨(hrow3.lt g h1).1,fun e=>?_⟩
    obtain⟨cc,tt,ff,h2⟩:=kD hrow3 h1
    rw [e,hWD] at h2
    cases h2
   exact ((((Slc.of_row hrow3).kept0 Gq.o).kept Jl.o (fun g hg hx=>by have:=(hb9 g hg).1;simp at hx;omega)).kept Ga (fun g hg hx=>by have:=(hb9 g hg).1;simp at hx;omega)).kept Gj (fun g hg hx=>by have:=(hb9 g hg).2;simp at hx;omega)
  have hfit:zI k=true∧qZ k.bits.toNat k.height.toNat l=true:=by
   refine⟨Mo.o,?_⟩
   rw [Jj.o.1,Jj.o.2]
   unfold qZ
   rw [Bool.and_eq_true,decide_eq_true_eq,decide_eq_true_eq,← HV.o.1]
   exact⟨Mx.o,Yz.o⟩
  have hsig:xS nb nh l=⟨R1.1,jD nb R2.1,vy 32 nh R3.1⟩:=by
   unfold xS
   rw [HV.o.1,HV.o.2.1,HV.o.2.2]
  refine⟨.tuple #[.agg #[.int .i64 R1.1,.slice a1 nb c1,.slice a2 nb c2,.slice a3 nh c3],.int .i64 0],by simp [results,results101,go_sem,y0,y1,y2,y3],?_,?_⟩
  ·unfold ju
   rw [if_pos hfit,Jj.o.1,Jj.o.2,hsig]
   exact⟨a1,c1,a2,c2,a3,c3,rfl,hall De.o Dg.o,hall Df.o Dh.o,hway⟩
  ·have h1:zb [] w W:=Jf.o.trans Gs.o.kept (by intro i hi;simp at hi;subst hi;exact .inr Ws)
   exact (((h1.then Gq.o).trans Jl.o (by intro i hi;simp at hi;subst hi;exact .inr Ws)).trans Ga (by intro i hi;simp at hi;subst hi;exact .inr Ws)).trans Gj (by intro i hi;simp at hi;subst hi;exact .inr Ws)
 case stop=>
  rintro D c' pre W _ _ h _
  exact h.elim
end Go.Proofs.YtibnfbglanpoiaaGreatDoor

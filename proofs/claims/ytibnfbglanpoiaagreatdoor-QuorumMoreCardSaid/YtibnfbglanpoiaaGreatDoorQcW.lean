/- Parts of one proof, merged: XCQ XCR. -/
import Derived.Test.YtibnfbglanpoiaaGreatDoorQcV
import Derived.Test.YtibnfbglanpoiaaGreatDoorQcQ
set_option linter.all false
set_option maxHeartbeats 12800000
set_option maxRecDepth 10000
set_option linter.unusedVariables false
set_option linter.unusedSimpArgs false
set_option linter.unnecessarySimpa false
namespace Go.Proofs.YtibnfbglanpoiaaGreatDoor
open Go.Proofs.Tryz
open Go.RowKit
attribute [local go_sem] Oper.semAt_some
def ckA (l:List UInt8) (i:Nat):List UInt8:=((l.drop (64 * i)).take 64).take 32
def ckB (l:List UInt8) (i:Nat):List UInt8:=((l.drop (64 * i)).take 64).drop 32
theorem ck_len {l:List UInt8}{N i:Nat}(h:l.length=64 * N) (hi:i < N):(ckA l i).length=32∧(ckB l i).length=32:=by
 have h1:64 * (i + 1)≤64 * N:=Nat.mul_le_mul_left 64 hi
 unfold ckA ckB
 rw [List.length_take,List.length_drop,List.length_take,List.length_drop]
 omega
theorem ck_row {w:World}{b off:Nat}{l:List UInt8}{N i:Nat}(h:Row w b off (l.map bv)) (hl:l.length=64 * N) (hi:i < N):w.rangeAt b (off + 64 * i) ((ckA l i).map bv)∧w.rangeAt b (off + 64 * i + 32) ((ckB l i).map bv):=by
 have h1:64 * (i + 1)≤64 * N:=Nat.mul_le_mul_left 64 hi
 refine⟨fun j v hv=>?_,fun j v hv=>?_⟩
 ·have hj:j < 32:=by
   have:=(List.getElem?_eq_some_iff.1 hv).1
   rw [List.length_map,(ck_len hl hi).1] at this
   exact this
  rw [Nat.add_assoc]
  refine h.cells (64 * i + j) v ?_
  rw [List.getElem?_map] at hv ⊢
  unfold ckA at hv
  rw [List.getElem?_take,if_pos hj,List.getElem?_take,if_pos (by omega),List.getElem?_drop] at hv
  exact hv
 ·have hj:j < 32:=by
   have:=(List.getElem?_eq_some_iff.1 hv).1
   rw [List.length_map,(ck_len hl hi).2] at this
   exact this
  rw [Nat.add_assoc,Nat.add_assoc]
  refine h.cells (64 * i + (32 + j)) v ?_
  rw [List.getElem?_map] at hv ⊢
  unfold ckB at hv
  rw [List.getElem?_drop,List.getElem?_take,if_pos (by omega),List.getElem?_drop] at hv
  exact hv
theorem ck_all (l:List UInt8) (N:Nat):(List.finRange N).map (fun i=>ckA l i.val)=(ZR N l).rev∧(List.finRange N).map (fun i=>ckB l i.val)=(ZR N l).oth:=by
 have h:∀ f:Nat→List UInt8,(List.finRange N).map (fun i=>f i.val)=(List.range N).map f:=fun f=>by
  apply List.ext_getElem
  ·simp
  ·intro i h1 h2;simp
 refine⟨?_,?_⟩
 ·rw [h (ckA l)];unfold ZR Zv ckA;simp only [List.map_map];rfl
 ·rw [h (ckB l)];unfold ZR Zv ckB;simp only [List.map_map];rfl
theorem kC.grown {W w w':World}{g:Nat}{a1:Option Addr}{c1:Nat}{a2:Option Addr}{c2:Nat}{r o:List (List UInt8)}{row:Option Nat}(h:kC W g w a1 c1 a2 c2 r o) (hg:w.grownBy w' row) (hr:∀ k,row=some k→W.heap.size≤k∧∃ ob:Obj,w.heap[k]? = some ob∧ob.isCells=false):kC W g w' a1 c1 a2 c2 r o:=by
 have hk:zb row.toList w w':=(zb.refl _ w).grown hg (fun k e=>.inl (by simp [e]))
 have hx:∀ k c t f,w.heap[k]? = some (.cells c t f)→k ∉ row.toList:=fun k c t f hc hm=>by
  obtain⟨ob,h1,h2⟩:=(hr k (Option.mem_toList.1 hm)).2
  rw [hc] at h1
  cases h1
  cases h2
 refine⟨h.kept.trans hk (fun i hi=>.inr (hr i (Option.mem_toList.1 hi)).1),h.new_,hk.heap h.box (hx _ _ _ _ h.box),zk h.rev hk (fun b e=>?_),zk h.oth hk (fun b e=>?_),h.apart⟩
 ·rcases h.rev.2 with ⟨e2,_⟩ | ⟨g',cap,cur,e2,_,hh,_⟩
  ·rw [e2] at e;cases e
  ·rw [e2] at e;cases e;exact hx _ _ _ _ hh
 ·rcases h.oth.2 with ⟨e2,_⟩ | ⟨g',cap,cur,e2,_,hh,_⟩
  ·rw [e2] at e;cases e
  ·rw [e2] at e;cases e;exact hx _ _ _ _ hh
theorem KeepsFrom.of_kept {B:Nat}{X:List Nat}{w w':World}(h:zb X w w') (hX:∀ k,k ∈ X→∃ c t f,w.heap[k]? = some (.cells c t f)):KeepsFrom B w w':=
 ⟨h.size,fun k o _ hk ho=>h.heap hk (fun hm=>by
  obtain⟨c,t,f,h1⟩:=hX k hm
  rw [hk] at h1
  cases h1
  cases ho)⟩
theorem ke {w:World}{base e size:Nat}{v:Value}{n:Nat}{xs:List Value}(h:w.ownsRow base e size v n xs) {b:Nat}(hb:v.ownBlock=some b):∃ c t f,w.heap[b]? = some (.cells c t f):=by
 rcases h.2 with ⟨e2,_⟩ | ⟨g',cap,cur,e2,_,hh,_⟩
 ·rw [e2] at hb;cases hb
 ·rw [e2] at hb;cases hb;exact⟨_,_,_,hh⟩
structure DecR (N:Nat) (l:List UInt8) (W0:World) (gb:Nat) (pre:List (Fin N)) (W:World):Prop where
 val:∃ a1 c1 a2 c2,kC W0 gb W a1 c1 a2 c2 (pre.map fun i=>ckA l i.val) (pre.map fun i=>ckB l i.val)
 box0:∃ c f,W.heap[gb + 1]? = some (.cells c 53 f)
 box1:∃ c f,W.heap[gb + 2]? = some (.cells c 3 f)
set_option maxRecDepth 100000 in
theorem JF {w:World}{a:Option Addr}{c N:Nat}{l:List UInt8}(hb:zp w (.slice a l.length c) l) (hN:l.length=64 * N) (hmb:yA N=true) :
  Calls Tryz.prog 136 #[.slice a l.length c] w fun e w'=>(∃ a1 c1 a2 c2,e = .returned (.tuple #[.agg #[.slice a1 N c1,.slice a2 N c2],.int .i64 0])∧Slc w' 32 (.slice a1 N c1) N ((ZR N l).rev.flatten.map bv)∧Slc w' 32 (.slice a2 N c2) N ((ZR N l).oth.flatten.map bv)∧(∀ g,yq (.slice a1 N c1)=some g→w.heap.size≤g)∧(∀ g,yq (.slice a2 N c2)=some g→w.heap.size≤g))∧zb [] w w':=by
 have hn8:8≤N∧N≤256:=by
  unfold yA at hmb
  simp only [Bool.and_eq_true,decide_eq_true_eq] at hmb
  omega
 obtain⟨bk,off,rfl,hcap,hrow⟩:=qD (size:=1) hb (by omega)
 have hcm:c≤maxLen:=by
  obtain⟨a',c',h3,-,h4⟩:=hb.form
  simp only [Value.slice.injEq] at h3
  omega
 obtain⟨W1,Gj⟩:∃ W1,Hid (W1=w.alloc (.cells #[.slice none 0 0,.slice none 0 0] 80)):=⟨_,qI rfl⟩
 have Gq:Hid (zb [] w W1):=qI (by rw [Gj.o];exact (zb.refl _ w).alloc _)
 have Jg:Hid (W1.heap[w.heap.size]? = some (.cells #[.slice none 0 0,.slice none 0 0] 80 (0,0))):=qI (by rw [Gj.o];exact zd rfl)
 have hS1:W1.heap.size=w.heap.size + 1:=by rw [Gj.o];simp
 have CM:Hid (Calls Tryz.prog 68 #[.int .i64 N] W1 fun e w'=>e = .returned (.bool true)∧W1=w'):=qI (by have h1:=jM N (by omega) (by omega) W1;rw [hmb] at h1;exact h1)
 obtain⟨W3,Gr⟩:∃ W3,Hid (W3=W1.alloc (.cells #[.slice none 0 0,.slice none 0 0] 80)):=⟨_,qI rfl⟩
 have Jc:Hid (kC W1 W1.heap.size W3 none 0 none 0 [] []):=qI (by rw [Gr.o];exact out_new W1)
 have hS3:W3.heap.size=W1.heap.size + 1:=by rw [Gr.o];simp
 have CH:=qI (K0 (some ⟨bk,off,none⟩) l.length c 64 (by decide) (by decide) W3)
 have Gh:=qI hrow
 have HN:=qI hN
 have Jd:=qI hn8
 have HC:=qI (And.intro hcap hcm)
 have hq1:((l.length:Int) % 64)=0:=by omega
 have hq2:((l.length:Int) / 64)=(N:Int):=by omega
 clear hb hrow hmb hcap hcm
 refine callsIn_wide.1 (callsIn_of_wp_marks (F:=Fence.wide) (n:=3) func136 rfl trivial ?_ rfl)
 refine wpIn_wide.2 ?_
 simp only [ntmps136,List.size_toArray,List.length_cons,List.length_nil,Nat.reduceAdd,Nat.reduceSub,Array.replicate_succ,Array.replicate_zero,List.push_toArray,List.append_toArray,List.nil_append,List.cons_append]
 generalize hL:l.length=L at CH hq1 hq2
 have Jh:=qI hL
 clear hL
 go_upto_region 1 with fail
 rw [← Gj.o]
 go_upto_region 4 with (go_at_call 68;refine CM.o.mono ?_;rintro e w' ⟨rfl,rfl⟩)
 rw [← Gr.o]
 go_wp2_with (go_at_call 135;refine CH.o.mono ?_;rintro e w' ⟨rfl,rfl⟩)
 rw [hS1] at Jc
 obtain⟨W4,Ge⟩:∃ W4,Hid (W4=(W3.alloc (.cells #[.slice (some ⟨bk,off,none⟩) L c] 53)).alloc (.cells #[.int .i64 64] 3)):=⟨_,qI rfl⟩
 have hS4:W4.heap.size=w.heap.size + 4:=by rw [Ge.o];simp;omega
 have Ji:Hid (W4.heap[w.heap.size + 1 + 1]? = some (.cells #[.slice (some ⟨bk,off,none⟩) L c] 53 (0,0))):=qI (by
  rw [Ge.o]
  exact ((zb.refl [] _).alloc _).heap (zd (by omega)) (by simp))
 have Jj:Hid (W4.heap[w.heap.size + 1 + 2]? = some (.cells #[.int .i64 64] 3 (0,0))):=qI (by
  rw [Ge.o]
  exact zd (by rw [World.size_alloc];omega))
 have hB0:W4.cell? ⟨w.heap.size + 1 + 1,0,none⟩=some (.slice (some ⟨bk,off,none⟩) (64 * N) c):=by
  rw [Ge.o,← HN.o,Jh.o]
  exact ((zb.refl [] _).alloc _).cell (za (zd (by omega)) rfl) (by simp)
 have hB1:W4.cell? ⟨w.heap.size + 1 + 1 + 1,0,none⟩=some (.int .i64 64):=by
  rw [Ge.o]
  exact za (zd (by rw [World.size_alloc];omega)) rfl
 have Jk:Hid (kC W1 (w.heap.size + 1) W4 none 0 none 0 [] []):=qI (Jc.o.kept0 (by rw [Ge.o];exact ((zb.refl [] _).alloc _).alloc _))
 rw [← Ge.o]
 refine (wpIn_wide (n:=3)).1 ?_
 refine wpIn_rangeFunc_ownG (F:=Fence.wide) (n:=3) rfl (by decide) (gf:=174) (lb:=#[.pointer (some ⟨w.heap.size + 1 + 1,0,none⟩),.pointer (some ⟨w.heap.size + 1 + 1 + 1,0,none⟩)]) rfl trivial (enters_of func174 (by kernel_rfl) rfl)
  (Z2 2 (w.heap.size + 1 + 1) (w.heap.size + 1 + 1 + 1) N 64 (by decide) (by decide) (by decide) Jd.o.2 (some ⟨bk,off,none⟩) bk off c (fun _=>rfl) (by rw [← HN.o];exact HC.o.1) HC.o.2 W4 hB0 hB1)
  (fun h k=>⟨k.1.trans h.1,k.2.trans h.2⟩) (fun W l o o' hl _ _ _=>⟨World.putObj_heap_other (by omega),World.putObj_heap_other (by omega)⟩) (Below.refl _ _) (fun _=>rfl)
  (fun pre W=>DecR N l W1 (w.heap.size + 1) pre W) (fun _ _ _=>False)
  (fun pre A B row hs hg hr=>by
   obtain⟨a1,c1,a2,c2,h⟩:=hs.val
   have hne:∀ k c t f,A.heap[k]? = some (Obj.cells c t f)→B.heap[k]? = some (Obj.cells c t f):=fun k c t f hc=>(hg.block k (lt_of_block hc) (fun e=>by
    obtain⟨ob,h1,h2⟩:=(hr k e.symm).2
    rw [hc] at h1
    cases h1
    cases h2)).trans hc
   obtain⟨d0,f0,e0⟩:=hs.box0
   obtain⟨d1,f1,e1⟩:=hs.box1
   exact⟨⟨a1,c1,a2,c2,h.grown hg (fun k e=>⟨by have:=(hr k e).1;omega,(hr k e).2⟩)⟩,⟨d0,f0,hne _ _ _ _ e0⟩,⟨d1,f1,hne _ _ _ _ e1⟩⟩)
  (fun _ _ _ _ _ hs _ _=>hs)
  ⟨⟨none,0,none,0,Jk.o⟩,⟨_,_,Ji.o⟩,⟨_,_,Jj.o⟩⟩
  (fun x=>{ tmps:=#[.slice (some ⟨bk,off,none⟩) L c,undef,.pointer (some ⟨w.heap.size,0,none⟩),.int .i64 0,.pointer (some ⟨w.heap.size + 1,0,none⟩),.slice (some ⟨bk,off + 64 * x.val,none⟩) 64 64,.slice (some ⟨bk,off,none⟩) L c,.int .i64 L,.int .i64 0,.bool false,.bool false,.slice (some ⟨bk,off,none⟩) L c,.int .i64 L,.int .i64 N,.bool true,.bool false,.bool false,undef,.slice (some ⟨bk,off,none⟩) L c,.func (.func 174) #[] #[.pointer (some ⟨w.heap.size + 1 + 1,0,none⟩),.pointer (some ⟨w.heap.size + 1 + 1 + 1,0,none⟩)],.slice (some ⟨bk,off + 64 * x.val,none⟩) 64 64,undef,undef,undef,undef,undef,undef,undef,undef,undef,undef,undef,undef,undef,undef,undef,undef,undef,undef,undef],defers:=[] }) ?assign ?body ?done ?stop
 case assign=>
  intro l' x W K hK
  gi_wp2
  exact hK
 case body=>
  rintro l' pre xi W ⟨⟨a1,c1,a2,c2,hoa⟩,⟨d0,e0,hd0⟩,⟨d1',e1,hd1'⟩⟩ hlen
  have Gs:=qI hd0
  have Gt:=qI hd1'
  have Ga:=qI hoa
  obtain⟨hx1,hx2⟩:=ck_len HN.o xi.isLt
  obtain⟨hr1,hr2⟩:=ck_row (i:=xi.val) (Gh.o.kept (Gq.o.then hoa.kept) (by simp)) HN.o xi.isLt
  have Gk:=qI hx1
  have Gl:=qI hx2
  have Gu:=qI hr1
  have Gf:Hid (W1.rangeAt bk (off + 64 * xi.val + 32) ((ckB l xi.val).map bv)):=qI (ck_row (i:=xi.val) (Gh.o.kept Gq.o (by simp)) HN.o xi.isLt).2
  have Gb:Hid ((pre.map fun i=>ckA l i.val).length=pre.length):=qI (by simp)
  have Gc:Hid ((pre.map fun i=>ckB l i.val).length=pre.length):=qI (by simp)
  have f0:W.cell? ⟨w.heap.size + 1,0,none⟩=some (.slice a1 pre.length c1):=by
   have h9:=za (o:=0) (v:=.slice a1 (pre.map fun i=>ckA l i.val).length c1) hoa.box rfl
   rw [Gb.o] at h9
   exact h9
  have Jp:=qI hlen
  have Gv:Hid (((pre ++ [xi]).map fun i=>ckA l i.val)=(pre.map fun i=>ckA l i.val) ++ [ckA l xi.val]):=qI (by simp)
  have Gw:Hid (((pre ++ [xi]).map fun i=>ckB l i.val)=(pre.map fun i=>ckB l i.val) ++ [ckB l xi.val]):=qI (by simp)
  generalize ckA l xi.val=x1 at Gk Gu Gv
  generalize ckB l xi.val=x2 at Gl Gf Gw
  have Gi:Hid (pre.length≤256):=qI (by have:=Jd.o;omega)
  generalize (pre.map fun i=>ckA l i.val)=rv at Ga Gb Gv
  generalize (pre.map fun i=>ckB l i.val)=ot at Ga Gc Gw
  generalize pre.length=m at f0 Gb Gc Gi
  generalize off + 64 * xi.val=q at Gu Gf
  clear hoa hx1 hx2 hr1 hr2 hlen hd0 hd1'
  gi_wp2
  refine jZ (k:=40) 7 [zg.is (.pointer (some ⟨w.heap.size + 1,0,none⟩)),
   zg.is (.slice a1 m c1),
   zg.is (.slice (some ⟨bk,q,none⟩) 64 64),
   zg.is (.slice (some ⟨bk,q,none⟩) 32 64),
   zg.is (.pointer (some ⟨bk,q,none⟩)),
   zg.is (.agg (x1.map bv).toArray),
   yU (x1.map bv) 1 32] (by kernel_rfl) (by kernel_rfl) (fun⟨_,_,h⟩=>h) rfl (by kernel_rfl) (fun x=>by simp only [List.map,yM,Act.put,List.setIfInBounds_toArray,List.set_cons_zero,List.set_cons_succ];rfl) ?_ ?_
  ·refine⟨fun x w2 hkw b hd=>?_,fun x w2 hkw b hd=>?_,fun x w2 hkw b hd=>?_,fun x w2 hkw b hd=>?_,fun x w2 hkw b hd=>?_,fun x w2 hkw b hd=>?_,fun x w2 hkw b hd=>?_,trivial⟩
   ·go_wp2_with fail
    exact⟨rfl,zb.refl _ _⟩
   ·have d0:x 0=_:=hd 0 (by kernel_rfl)
    have y0:=hkw.cell f0 (by simp)
    go_wp2_with fail
    exact⟨rfl,zb.refl _ _⟩
   ·go_wp2_with fail
    exact⟨rfl,zb.refl _ _⟩
   ·have d2:x 2=_:=hd 2 (by kernel_rfl)
    go_wp2_with fail
    exact⟨rfl,zb.refl _ _⟩
   ·have d3:x 3=_:=hd 3 (by kernel_rfl)
    have d3:x 3=_:=hd 3 (by kernel_rfl)
    go_wp2_with fail
    rename_i hK
    exact hK _ _ ⟨rfl,_,by simp only [Nat.zero_add,Nat.reduceAdd,d3],rfl,zb.refl _ _⟩
   ·have d4:x 4=_:=hd 4 (by kernel_rfl)
    have d4:x 4=_:=hd 4 (by kernel_rfl)
    change wpList _ _ _ [_] _ _
    refine zR (by rfl) _ rfl (g:=bk) (of:=q) (fun j v hv=>hkw.cell (Gu.o j v hv) (by simp)) Gk.o d4 ?_
    exact⟨rfl,_,rfl,rfl,zb.refl _ _⟩
   ·have d5:x 5=_:=hd 5 (by kernel_rfl)
    have d5:x 5=_:=hd 5 (by kernel_rfl)
    change wpList _ _ _ [_] _ _
    refine yI underlying73 xX bg (by decide) (by decide) (by rfl) _ rfl (cs:=x1.map bv) (by simp [Gk.o]) d5 ?_
    exact⟨rfl,_,rfl,⟨w2.heap.size,rfl,Nat.le_refl _,by simp,zV w2 (x1.map bv) 32 1 _ _ rfl (by simp [Gk.o]) (by decide)⟩,(zb.refl _ _).alloc _⟩
  ·intro x w7 hkw b7 hd hwin
   have d1:x 1=_:=hd 1 (by decide)
   obtain⟨g9,d6,-,-,hsl⟩:=hd 6 (by decide)
   have Gx:=qI hsl
   have Gy:=qI (Ga.o.kept0 hkw)
   have Jl:=qI hkw
   clear hd hwin hkw hsl
   change wpList _ _ _ [_,_,_] _ _
   go_wp2_with (at_builtin;refine zj QG (v:=.slice a1 m c1) (n:=m) (xs:=rv.flatten.map bv) (by have h9:=Gy.o.rev;rw [Gb.o] at h9;exact h9) Gx.o (xu _) (by have:=Gi.o;simp only [maxLen];omega) (by have:=Gi.o;omega) Gy.o.kept.size rfl _ _ rfl d1 d6 ?_;intro v5 w8 hown hk5 _ hb5;obtain⟨a5,c5,rfl,-,-⟩:=(Slc.of_row hown).form;have Jm:=qI hk5;obtain⟨u0,uf,ho8⟩:=Gy.o.push0 (x:=x1) (a5:=a5) (c5:=c5) (by rw [Gb.o];exact hown) (by rw [Gb.o];exact hk5) (by rw [Gb.o];exact hb5);rw [Gb.o] at u0 ho8;rw [← Gv.o] at ho8;have Gm:=qI ho8;clear hown hk5 hb5 ho8)
   have Je:Hid (zb ((w.heap.size + 1) :: (Value.slice a1 m c1).ownBlock.toList) W (w8.setCell ⟨w.heap.size + 1,0,none⟩ (.slice a5 (m + 1) c5))):=qI ((((Jl.o.mono (by simp)).trans' (Jm.o.mono (fun k h=>List.mem_cons_of_mem _ h)))).setCell (.inl (by simp)) _)
   generalize w8.setCell ⟨w.heap.size + 1,0,none⟩ (.slice a5 (m + 1) c5)=w9 at Gm Je
   have f1:=za (o:=1) Gm.o.box rfl
   rw [Gc.o] at f1
   have Jn:Hid (w9.rangeAt bk (q + 32) (x2.map bv)):=qI (fun j v hv=>(Gm.o.kept).cell (Gf.o j v hv) (by simp))
   gi_wp2
   refine jZ (k:=40) 7 [zg.is (.pointer (some ⟨w.heap.size + 1,1,none⟩)),
    zg.is (.slice a2 m c2),
    zg.is (.slice (some ⟨bk,q,none⟩) 64 64),
    zg.is (.slice (some ⟨bk,q + 32,none⟩) 32 32),
    zg.is (.pointer (some ⟨bk,q + 32,none⟩)),
    zg.is (.agg (x2.map bv).toArray),
    yU (x2.map bv) 1 32] (by kernel_rfl) (by kernel_rfl) (fun⟨_,_,h⟩=>h) rfl (by kernel_rfl) (fun x=>by simp only [List.map,yM,Act.put,List.setIfInBounds_toArray,List.set_cons_zero,List.set_cons_succ];rfl) ?_ ?_
   ·refine⟨fun x w2 hkw b hd=>?_,fun x w2 hkw b hd=>?_,fun x w2 hkw b hd=>?_,fun x w2 hkw b hd=>?_,fun x w2 hkw b hd=>?_,fun x w2 hkw b hd=>?_,fun x w2 hkw b hd=>?_,trivial⟩
    ·go_wp2_with fail
     exact⟨rfl,zb.refl _ _⟩
    ·have d0:x 0=_:=hd 0 (by kernel_rfl)
     have y0:=hkw.cell f1 (by simp)
     go_wp2_with fail
     exact⟨rfl,zb.refl _ _⟩
    ·go_wp2_with fail
     exact⟨rfl,zb.refl _ _⟩
    ·have d2:x 2=_:=hd 2 (by kernel_rfl)
     go_wp2_with fail
     exact⟨rfl,zb.refl _ _⟩
    ·have d3:x 3=_:=hd 3 (by kernel_rfl)
     have d3:x 3=_:=hd 3 (by kernel_rfl)
     go_wp2_with fail
     rename_i hK
     exact hK _ _ ⟨rfl,_,by simp only [Nat.zero_add,Nat.reduceAdd,d3],rfl,zb.refl _ _⟩
    ·have d4:x 4=_:=hd 4 (by kernel_rfl)
     have d4:x 4=_:=hd 4 (by kernel_rfl)
     change wpList _ _ _ [_] _ _
     refine zR (by rfl) _ rfl (g:=bk) (of:=q + 32) (fun j v hv=>hkw.cell (Jn.o j v hv) (by simp)) Gl.o d4 ?_
     exact⟨rfl,_,rfl,rfl,zb.refl _ _⟩
    ·have d5:x 5=_:=hd 5 (by kernel_rfl)
     have d5:x 5=_:=hd 5 (by kernel_rfl)
     change wpList _ _ _ [_] _ _
     refine yI underlying73 xX bg (by decide) (by decide) (by rfl) _ rfl (cs:=x2.map bv) (by simp [Gl.o]) d5 ?_
     exact⟨rfl,_,rfl,⟨w2.heap.size,rfl,Nat.le_refl _,by simp,zV w2 (x2.map bv) 32 1 _ _ rfl (by simp [Gl.o]) (by decide)⟩,(zb.refl _ _).alloc _⟩
   ·intro x w17 hkw b17 hd hwin
    have d1:x 1=_:=hd 1 (by decide)
    obtain⟨g9,d6,-,-,hsl⟩:=hd 6 (by decide)
    have Gx:=qI hsl
    have Gg:=qI (Gm.o.kept0 hkw)
    have Gz:=qI hkw
    clear hd hwin hkw hsl
    change wpList _ _ _ [_,_,_] _ _
    go_wp2_with (at_builtin;refine zj QG (v:=.slice a2 m c2) (n:=m) (xs:=ot.flatten.map bv) (by have h9:=Gg.o.oth;rw [Gc.o] at h9;exact h9) Gx.o (xu _) (by have:=Gi.o;simp only [maxLen];omega) (by have:=Gi.o;omega) Gg.o.kept.size rfl _ _ rfl d1 d6 ?_;intro v6 w18 hown hk6 _ hb6;obtain⟨a6,c6,rfl,-,-⟩:=(Slc.of_row hown).form;have Jo:=qI hk6;obtain⟨u0,uf,ho18⟩:=Gg.o.push1 (x:=x2) (a5:=a6) (c5:=c6) (by rw [Gc.o];exact hown) (by rw [Gc.o];exact hk6) (by rw [Gc.o];exact hb6);rw [Gc.o] at u0 ho18;rw [← Gw.o] at ho18;have Ja:=qI ho18;clear hown hk6 hb6 ho18)
    have Gd:zb ((w.heap.size + 1) :: ((Value.slice a1 m c1).ownBlock.toList ++ (Value.slice a2 m c2).ownBlock.toList)) W (w18.setCell ⟨w.heap.size + 1,1,none⟩ (.slice a6 (m + 1) c6)):=
     ((((Je.o.mono (fun k h=>(List.mem_cons.1 h).elim (fun h=>by rw [h];simp) (fun h=>List.mem_cons_of_mem _ (List.mem_append_left _ h)))).then Gz.o).trans' (Jo.o.mono (fun k h=>List.mem_cons_of_mem _ (List.mem_append_right _ h))))).setCell (.inl (by simp)) _
    have hcl:∀ k,k ∈ (w.heap.size + 1) :: ((Value.slice a1 m c1).ownBlock.toList ++ (Value.slice a2 m c2).ownBlock.toList)→∃ c t f,W.heap[k]? = some (.cells c t f):=fun k hk=>by
     rcases List.mem_cons.1 hk with rfl | hk
     ·exact⟨_,_,_,Ga.o.box⟩
     rcases List.mem_append.1 hk with hk | hk
     ·exact ke Ga.o.rev (by rw [Gb.o];exact Option.mem_toList.1 hk)
     ·exact ke Ga.o.oth (by rw [Gc.o];exact Option.mem_toList.1 hk)
    have hn0:∀ k d t e,W.heap[k]? = some (.cells d t e)→t≠45→k≠w.heap.size + 1→k ∉ (w.heap.size + 1) :: ((Value.slice a1 m c1).ownBlock.toList ++ (Value.slice a2 m c2).ownBlock.toList):=fun k d t e h1 h2 h3 hk=>by
     rcases List.mem_cons.1 hk with hk | hk
     ·exact h3 hk
     rcases List.mem_append.1 hk with hk | hk
     ·have h4:=yd Ga.o.rev (by rw [Gb.o];exact Option.mem_toList.1 hk)
      rw [zH h1] at h4
      exact h2 (Nat.add_right_cancel h4)
     ·have h4:=yd Ga.o.oth (by rw [Gc.o];exact Option.mem_toList.1 hk)
      rw [zH h1] at h4
      exact h2 (Nat.add_right_cancel h4)
    have h8:=hn0 _ _ _ _ Gs.o (by decide) (by omega)
    have h9:=hn0 _ _ _ _ Gt.o (by decide) (by omega)
    exact⟨KeepsFrom.of_kept Gd hcl,⟨Gd.block _ (lt_of_block Gs.o) h8,Gd.block _ (lt_of_block Gt.o) h9⟩,⟨⟨a5,c5,a6,c6,Ja.o⟩,⟨_,_,Gd.heap Gs.o h8⟩,⟨_,_,Gd.heap Gt.o h9⟩⟩⟩
 case done=>
  rintro D xs W hD rfl ⟨⟨a1,c1,a2,c2,hoa⟩,-,-⟩ hK
  rw [(ck_all l N).1,(ck_all l N).2] at hoa
  obtain⟨hl1,hl2⟩:=Kr N l
  have Ga:=qI hoa
  have f0:=za (o:=0) hoa.box rfl
  have f1:=za (o:=1) hoa.box rfl
  rw [hl1] at f0
  rw [hl2] at f1
  have Gn:=qI (hoa.kept.heap Jg.o (by simp))
  have r0:=za (o:=0) Gn.o rfl
  have r1:=za (o:=1) Gn.o rfl
  have z:∀ j,W.frozen? ⟨w.heap.size,j,none⟩=false:=fun j=>zh Gn.o
  clear hoa
  gi_wp2
  go_wp2_with fail
  change bodyPostM _ _ _ _ _ _ _ (put2 W w.heap.size (.slice a1 N c1) (.slice a2 N c2))
  have Gd:=vg W w.heap.size (.slice a1 N c1) (.slice a2 N c2)
  have Jf:=put2_at Gn.o (.slice a1 N c1) (.slice a2 N c2)
  have hKD:=Gd.heap hK (by simp;omega)
  generalize put2 W w.heap.size (.slice a1 N c1) (.slice a2 N c2)=WF at Gd Jf hKD
  have Gp:zb [D] WF (WF.putObj D (.deferred none)):=(zb.refl _ _).grown (grownBy_putObj' WF D (.deferred none)) (fun k e=>by cases e;exact .inl (by simp))
  refine⟨by simp,.inl ⟨_,_,rfl,run_takeDeferred hKD,?_⟩⟩
  have Jb:=Gp.heap Jf (by simp;omega)
  generalize WF.putObj D (.deferred none)=WZ at Gp Jb
  have y0:=za (o:=0) Jb rfl
  have y1:=za (o:=1) Jb rfl
  have e1:=Ga.o.rev
  have e2:=Ga.o.oth
  rw [hl1] at e1
  rw [hl2] at e2
  have hDk:∀ g,kind W g=45 + 2→g≠D:=fun g hg e=>by
   subst e
   simp [Go.Proofs.YtibnfbglanpoiaaGreatDoor.kind,hK] at hg
  have hr:∀ {v:Value}{xs:List Value},W.ownsRow W1.heap.size 45 32 v N xs→Slc WZ 32 v N xs∧∀ g,v.ownBlock=some g→w.heap.size≤g:=fun {v xs} h=>by
   refine⟨Slc.of_row (zk (zk h Gd (fun g hg hx=>by have h3:=(h.lt g hg).1;simp at hx;omega)) Gp (fun g hg hx=>by simp at hx;exact hDk g (yd h hg) hx)),fun g hg=>?_⟩
   have:=(h.lt g hg).1
   omega
  refine⟨.tuple #[.agg #[.slice a1 N c1,.slice a2 N c2],.int .i64 0],by simp [results,results136,go_sem,y0,y1],⟨a1,c1,a2,c2,rfl,(hr e1).1,(hr e2).1,fun g hg=>(hr e1).2 g (ye hg),fun g hg=>(hr e2).2 g (ye hg)⟩,?_⟩
  exact ((Gq.o.then Ga.o.kept).trans Gd (by intro i hi;simp at hi;subst hi;exact .inr (Nat.le_refl _))).trans Gp (by intro i hi;simp at hi;subst hi;exact .inr (by omega))
 case stop=>
  rintro D c' pre W _ _ h _
  exact h.elim
attribute [local go_sem] Oper.semAt_some
theorem rd_chain (n1 n2:Nat) (b:List UInt8):((rdB n2 (rdB n1 (rdN b).2.1 (rdN b).2.2).2.1 (rdB n1 (rdN b).2.1 (rdN b).2.2).2.2).2.2=false∧(rdB n2 (rdB n1 (rdN b).2.1 (rdN b).2.2).2.1 (rdB n1 (rdN b).2.1 (rdN b).2.2).2.2).2.1=[])↔b.length=4 + n1 + n2:=by
 unfold rdN
 by_cases h4:4≤b.length
 ·rw [if_pos h4]
  unfold rdB
  by_cases h1:n1≤(b.drop 4).length∧false=false
  ·rw [if_pos h1]
   dsimp only
   by_cases h2:n2≤((b.drop 4).drop n1).length∧false=false
   ·rw [if_pos h2]
    dsimp only
    have h3:=h2.1
    have h5:=h1.1
    simp only [List.length_drop] at h3 h5
    rw [← List.length_eq_zero_iff]
    simp only [List.length_drop,true_and]
    omega
   ·rw [if_neg h2]
    dsimp only
    have h3:¬ n2≤((b.drop 4).drop n1).length:=fun h=>h2 ⟨h,rfl⟩
    have h5:=h1.1
    simp only [List.length_drop] at h3 h5
    simp only [Bool.true_eq_false,false_and,false_iff]
    omega
  ·rw [if_neg h1]
   dsimp only
   have h5:¬ n1≤(b.drop 4).length:=fun h=>h1 ⟨h,rfl⟩
   simp only [List.length_drop] at h5
   have h6:(if n2≤([]:List UInt8).length∧true=false then (([]:List UInt8).take n2,([]:List UInt8).drop n2,false) else ([],[],true))=([],[],true):=if_neg (fun h=>by cases h.2)
   rw [h6]
   simp only [Bool.true_eq_false,false_and,false_iff]
   omega
 ·rw [if_neg h4]
  unfold rdB
  dsimp only
  have h6:∀ n,(if n≤([]:List UInt8).length∧true=false then (([]:List UInt8).take n,([]:List UInt8).drop n,false) else ([],[],true))=([],[],true):=fun n=>if_neg (fun h=>by cases h.2)
  rw [h6 n1]
  dsimp only
  rw [h6 n2]
  simp only [Bool.true_eq_false,false_and,false_iff]
  omega
theorem rd_vals (n1 n2:Nat) (b:List UInt8) (h:b.length=4 + n1 + n2):(rdN b).1=bH (b.take 4)∧(rdB n1 (rdN b).2.1 (rdN b).2.2).1=(b.drop 4).take n1∧(rdB n2 (rdB n1 (rdN b).2.1 (rdN b).2.2).2.1 (rdB n1 (rdN b).2.1 (rdN b).2.2).2.2).1=(b.drop (4 + n1)).take n2:=by
 unfold rdN
 rw [if_pos (by omega)]
 unfold rdB
 dsimp only
 rw [if_pos ⟨by rw [List.length_drop];omega,rfl⟩]
 dsimp only
 rw [if_pos ⟨by rw [List.length_drop,List.length_drop];omega,rfl⟩]
 refine⟨rfl,rfl,?_⟩
 rw [List.drop_drop]
structure js (W:World) (g:Nat) (w:World) (lf:Int) (a:Option Addr) (c:Nat) (ps:List (List UInt8)):Prop where
 kept:zb [g] W w
 box:w.heap[g]? = some (.cells #[.int .i64 lf,.slice none 0 0,.slice none 0 0,.slice a ps.length c] 82 (0,0))
 row:w.ownsRow W.heap.size 45 32 (.slice a ps.length c) ps.length (ps.flatten.map bv)
theorem js.kept0 {W w w':World}{g:Nat}{lf:Int}{a:Option Addr}{c:Nat}{ps:List (List UInt8)}(h:js W g w lf a c ps) (k:zb [] w w'):js W g w' lf a c ps:=
 ⟨h.kept.then k,k.heap h.box (by simp),zk h.row k (by simp)⟩
theorem js.push {W w w':World}{g:Nat}{lf:Int}{a:Option Addr}{c:Nat}{ps:List (List UInt8)}(h:js W g w lf a c ps) {x:List UInt8}{a5:Option Addr}{c5:Nat}
  (hown:w'.ownsRow W.heap.size 45 32 (.slice a5 (ps.length + 1) c5) (ps.length + 1) (ps.flatten.map bv ++ x.map bv)) (hk:zb (Value.slice a ps.length c).ownBlock.toList w w') :
  w'.cell? ⟨g,3,none⟩=some (.slice a ps.length c)∧w'.frozen? ⟨g,3,none⟩=false∧js W g (w'.setCell ⟨g,3,none⟩ (.slice a5 (ps.length + 1) c5)) lf a5 c5 (ps ++ [x]):=by
 have hng:g ∉ (Value.slice a ps.length c).ownBlock.toList:=fun hx=>yL (yd h.row (Option.mem_toList.1 hx)) (zH h.box) (by decide) rfl
 have hb8:=hk.heap h.box hng
 have hst:zb [g] w' (w'.setCell ⟨g,3,none⟩ (.slice a5 (ps.length + 1) c5)):=(zb.refl _ _).setCell (.inl (by simp)) _
 have hel:(ps ++ [x]).length=ps.length + 1:=by simp
 have hef:((ps ++ [x]).flatten).map bv=ps.flatten.map bv ++ x.map bv:=by simp
 refine⟨za hb8 rfl,zh hb8,⟨?_,?_,?_⟩⟩
 ·exact ((h.kept.trans hk (fun i hi=>.inr (h.row.lt i (Option.mem_toList.1 hi)).1))).setCell (.inl (by simp)) _
 ·rw [hel];exact ze hb8 rfl
 ·rw [hel,hef]
  exact zk hown hst (fun b e hx=>by
   simp at hx;subst hx
   exact yL (yd hown e) (zH hb8) (by decide) rfl)
theorem js.grown {W w w':World}{g:Nat}{lf:Int}{a:Option Addr}{c:Nat}{ps:List (List UInt8)}{row:Option Nat}(h:js W g w lf a c ps) (hg:w.grownBy w' row) (hr:∀ k,row=some k→W.heap.size≤k∧∃ ob:Obj,w.heap[k]? = some ob∧ob.isCells=false):js W g w' lf a c ps:=by
 have hk:zb row.toList w w':=(zb.refl _ w).grown hg (fun k e=>.inl (by simp [e]))
 have hx:∀ k c t f,w.heap[k]? = some (.cells c t f)→k ∉ row.toList:=fun k c t f hc hm=>by
  obtain⟨ob,h1,h2⟩:=(hr k (Option.mem_toList.1 hm)).2
  rw [hc] at h1
  cases h1
  cases h2
 refine⟨h.kept.trans hk (fun i hi=>.inr (hr i (Option.mem_toList.1 hi)).1),hk.heap h.box (hx _ _ _ _ h.box),zk h.row hk (fun b e=>?_)⟩
 obtain⟨c,t,f,h1⟩:=ke h.row e
 exact hx _ _ _ _ h1
theorem cut_row {w:World}{b off n:Nat}{l:List UInt8}{N i:Nat}(h:Row w b off (l.map bv)) (hl:l.length=n * N) (hi:i < N):w.rangeAt b (off + n * i) (((l.drop (n * i)).take n).map bv)∧((l.drop (n * i)).take n).length=n:=by
 have h1:n * (i + 1)≤n * N:=Nat.mul_le_mul_left n hi
 rw [Nat.mul_add] at h1
 refine⟨fun j v hv=>?_,by rw [List.length_take,List.length_drop];omega⟩
 have hj:j < n:=by
  have:=(List.getElem?_eq_some_iff.1 hv).1
  rw [List.length_map,List.length_take] at this
  omega
 rw [Nat.add_assoc]
 refine h.cells (n * i + j) v ?_
 rw [List.getElem?_map] at hv ⊢
 rw [List.getElem?_take,if_pos hj,List.getElem?_drop] at hv
 exact hv
theorem cut_all (n N:Nat) (l:List UInt8):(List.finRange N).map (fun i=>(l.drop (n * i.val)).take n)=Zv n N l:=by
 unfold Zv
 apply List.ext_getElem
 ·simp
 ·intro i h1 h2;simp
structure WayR (N:Nat) (l:List UInt8) (W0:World) (gs:Nat) (lf:Int) (B:Nat) (pre:List (Fin N)) (W:World):Prop where
 val:∃ a c,js W0 gs W lf a c (pre.map fun i=>(l.drop (32 * i.val)).take 32)
 box0:∃ c f,W.heap[B]? = some (.cells c 53 f)
 box1:∃ c f,W.heap[B + 1]? = some (.cells c 3 f)
def Y6 (w w':World) (e:Ending) (k:zP) (b:List UInt8):Prop:=
 if zK k=true∧jS k.bits.toNat k.height.toNat b=true then
  ∃ a1 c1 a2 c2 a3 c3,e = .returned (.tuple #[.agg #[.int .i64 (qu k.bits.toNat k.height.toNat b).leaf,.slice a1 k.bits.toNat c1,.slice a2 k.bits.toNat c2,.slice a3 k.height.toNat c3],.int .i64 0]) ∧
   Slc w' 32 (.slice a1 k.bits.toNat c1) k.bits.toNat ((qu k.bits.toNat k.height.toNat b).one.rev.flatten.map bv)∧Slc w' 32 (.slice a2 k.bits.toNat c2) k.bits.toNat ((qu k.bits.toNat k.height.toNat b).one.oth.flatten.map bv)∧Slc w' 32 (.slice a3 k.height.toNat c3) k.height.toNat ((qu k.bits.toNat k.height.toNat b).way.flatten.map bv)
 else ∃ z:Int,z≠0∧-1000≤z∧z≤1000∧e = .returned (.tuple #[.agg #[.int .i64 0,.slice none 0 0,.slice none 0 0,.slice none 0 0],.int .i64 z])
end Go.Proofs.YtibnfbglanpoiaaGreatDoor

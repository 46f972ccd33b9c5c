/- Parts of one proof, merged: XBL XBM. -/
import Derived.Test.YtibnfbglanpoiaaGreatDoorQeAI
import Derived.Test.YtibnfbglanpoiaaGreatDoorQeAE
set_option linter.all false
set_option maxHeartbeats 12800000
set_option maxRecDepth 100000
namespace Go.Proofs.YtibnfbglanpoiaaGreatDoor
open Go.Proofs.Tryz
open Go.RowKit
open Go.Maps (Keyed)
attribute [local go_sem] Oper.semAt_some
def sgL (sa la:Value) (k:zY) (mv:Value):List Value:=sa::la::(kz k++[mv])
def qm (w:World) (g:Nat) (sa la:Value) (k:zY) (mv:Value):Prop:=w.heap[g]? = some (.cells (sgL sa la k mv).toArray 75 (0,0))
theorem qm.kept0 {w w':World}{g:Nat}{sa la mv:Value}{k:zY}(h:qm w g sa la k mv) (hk:zb [] w w'):qm w' g sa la k mv:=hk.heap h Wz
theorem qm.key {w:World}{g:Nat}{sa la mv:Value}{k:zY}(h:qm w g sa la k mv):w.rangeAt g 2 (kz k):=fun j v hv=>by
 refine za h ?_
 have hj:=(List.getElem?_eq_some_iff.1 hv).1
 rw [sgL,List.getElem?_toArray,show 2+j=j+1+1 by omega,List.getElem?_cons_succ,List.getElem?_cons_succ,List.getElem?_append_left hj]
 exact hv
theorem qm.c0 {w:World}{g:Nat}{sa la mv:Value}{k:zY}(h:qm w g sa la k mv):w.cell? ⟨g,0,none⟩=some sa:=za h rfl
theorem qm.c1 {w:World}{g:Nat}{sa la mv:Value}{k:zY}(h:qm w g sa la k mv):w.cell? ⟨g,1,none⟩=some la:=za h rfl
theorem qm.c2 {w:World}{g:Nat}{sa la mv:Value}{k:zY}(h:qm w g sa la k mv):w.cell? ⟨g,2,none⟩=some (.int .i64 k.bits):=za h rfl
theorem qm.cm {w:World}{g:Nat}{sa la mv:Value}{k:zY}(h:qm w g sa la k mv) (hl:k.root.length=32):w.cell? ⟨g,36,none⟩=some mv:=by
 refine za h ?_
 have h1:=xE hl
 rw [sgL,List.getElem?_toArray,List.getElem?_cons_succ,List.getElem?_cons_succ,List.getElem?_append_right Ws,h1]
 rfl
theorem sgL_len {sa la mv:Value}{k:zY}(h:k.root.length=32):(sgL sa la k mv).length=37:=by
 simp [sgL,xE h]
theorem sgL_get {sa la mv:Value}{k:zY}(h:k.root.length=32) (i:Nat) (hi:2≤i):(sgL sa la k mv)[i]? = if i<36 then (kz k)[i-2]? else if i=36 then some mv else none:=by
 have h1:=xE h
 obtain⟨j,rfl⟩:∃ j,i=j+2:=⟨i - 2,Ws⟩
 show (kz k++[mv])[j]? = _
 rw [Nat.add_sub_cancel]
 by_cases hj:j+2<36
 ·rw [if_pos hj,List.getElem?_append_left Ws]
 ·rw [if_neg hj,List.getElem?_append_right Ws,h1]
  by_cases h36:j+2=36
  ·rw [if_pos h36,show j-34=0 by omega];rfl
  ·rw [if_neg h36,List.getElem?_eq_none (by simp;omega)]
theorem qm.setKey {w:World}{g:Nat}{sa la mv:Value}{k k':zY}(h:qm w g sa la k mv) (hl:k.root.length=32) (hl':k'.root.length=32):qm (w.setCells g 2 (kz k')) g sa la k' mv:=by
 obtain⟨cur,h1,h2,h3⟩:=xM g (kz k') 2 w _ h
 have hz:(sgL sa la k mv).toArray.size=37:=by simp [sgL_len hl]
 have hk':=xE hl'
 have e:cur=(sgL sa la k' mv).toArray:=by
  apply Array.ext'
  apply List.ext_getElem?
  intro i
  rw [List.toList_toArray,Array.getElem?_toList]
  by_cases hi:i<37
  ·rw [h3 i (by rw [hz];exact hi)]
   by_cases h2i:2≤i
   ·rw [sgL_get hl' i h2i]
    by_cases h36:i<36
    ·rw [if_pos Ws,if_pos h36]
    ·rw [if_neg Ws,if_neg h36,List.getElem?_toArray,sgL_get hl i h2i,if_neg h36]
   ·rw [if_neg Ws]
    obtain rfl | rfl:i=0∨i=1:=Ws
    ·rfl
    ·rfl
  ·rw [Array.getElem?_eq_none (by rw [h2,hz];omega),List.getElem?_eq_none (by rw [sgL_len hl'];omega)]
 unfold qm
 rw [h1,e]
theorem JX {ops:Array Oper}{rest:List Oper}{op:Oper}{a:Act}{w:World}{Q:Exit→Act→World→Prop}(hgd:op.guard=none) (x y:Operand) (ho:op.op = .store 47 x y) {g:Nat}{sa la mv:Value}{k k0:zY}(h0:qm w g sa la k0 mv) (hl0:k0.root.length=32) (hl:k.root.length=32)
  (hx:a.eval x = .pointer (some ⟨g,2,none⟩)) (hy:a.eval y = .agg (ye k)) (h:∀ w',qm w' g sa la k mv→zb [g] w w'→wpList Tryz.prog ops Q rest (a.put op.dst undef) w'):wpList Tryz.prog ops Q (op::rest) a w:=by
 have hsz:(ye k).size=34:=by simp [ye,xE hl]
 refine wpList_store_mid hgd 47 x y ho g 2 (ye k) hx hy (fun j hj=>?_) (by rw [hsz];exact YM) (all_oneCell_toArray (KT k)) (h _ ?_ (yo _ _ _ _))
 ·rw [hsz] at hj
  have hj':2+j<(sgL sa la k0 mv).length:=by rw [sgL_len hl0];omega
  exact⟨by rw [za (v:=(sgL sa la k0 mv)[2+j]) h0 (by simp [hj'])];rfl,zh h0⟩
 ·exact h0.setKey hl0 hl
def k8 (root:List UInt8):zY:=⟨8,1,root⟩
def kU (i:Nat):List UInt8:=ZL [113] i 8
def qh (k:Nat):List UInt8:=((List.range k).map kU).flatten
def xR:List UInt8:=yO (kU 0) (kU 1)
theorem qw (k:Nat):qh (k+1)=qh k++kU k:=by
 unfold qh
 rw [List.range_succ,List.map_append,List.flatten_append]
 simp
theorem keyInt:Keyed Tryz.prog 3:=Maps.int_keyed underlying3
theorem run_slice32 (W:World) (cs:List Value) (hl:cs.length=32):(Instr.buildSlice 73 1 #[(0,.agg cs.toArray)]).run Tryz.prog W = .ok (.slice (some ⟨W.heap.size,0,none⟩) 1 1) (W.alloc (.cells cs.toArray 45)):=by
 obtain⟨ie,hie⟩:∃ ie,Tryz.prog.info? 45=some ie:=by
  cases h9:Tryz.prog.info? 45 with
  | none=>have hi:=xU;rw [h9] at hi;cases hi
  | some ie=>exact⟨ie,rfl⟩
 have hsz:ie.size=32:=by
  have hi:=xU
  rw [hie] at hi
  simpa using hi
 obtain⟨z,hz⟩:∃ z,ie.zero=some z:=by
  have hz:=jx
  rw [hie] at hz
  exact Option.isSome_iff_exists.1 hz
 exact run_buildSlice W _ _ 1 #[(0,.agg cs.toArray)] cs.toArray ie z underlying73 hie hz (by rw [hsz];decide) (by rw [hsz];decide) (by
  have h1:=Ks (n:=32) hl Wo z
  rw [hsz]
  exact h1)
section
variable {ops : Array Oper} {o : Oper} {a : Act} {w : World} {K : Act → World → Prop} {Q : Exit → Act → World → Prop} {E : Prop}
theorem QP (hg:o.guard=none) (x:Operand) (ho:o.op = .load 45 x) {g of:Nat}{l:List UInt8}{arr:Array Value}(h0:w.rangeAt g of (l.map bv)) (hl:l.length=32) (hx:a.eval x = .pointer (some ⟨g,of,none⟩)) (he:arr=(l.map bv).toArray) (hK:K (a.put o.dst (.agg arr)) w) :
  if Region.wanted o (yielded ops a.tmps)=true then Oper.wp Tryz.prog o a w K Q else E:=by
 subst he
 rw [if_pos (by simp [Region.wanted,hg])]
 exact wp_load_mid 45 x ho g of hx (l.map bv) _ h0 underlying45 rfl (by rw [List.length_map,hl];exact xU) hK
theorem bL (hg:o.guard=none) (x:Operand) (ho:o.op = .buildSlice 73 1 #[(0,x)]) {l:List UInt8}{arr:Array Value}(hl:l.length=32) (hx:a.eval x = .agg arr) (he:arr=(l.map bv).toArray) (hK:K (a.put o.dst (.slice (some ⟨w.heap.size,0,none⟩) 1 1)) (w.alloc (.cells arr 45))) :
  if Region.wanted o (yielded ops a.tmps)=true then Oper.wp Tryz.prog o a w K Q else E:=by
 rw [if_pos (by simp [Region.wanted,hg])]
 unfold Oper.wp execOp
 simp only [ho,Sem.run_bind,List.map_toArray,List.map_cons,List.map_nil,hx]
 have h1:=run_slice32 w (l.map bv) (by simp [hl])
 rw [← he] at h1
 rw [h1]
 exact hK
end
theorem newSigner_any {w:World}{a:Option Addr}{c:Nat}(hb:zp w (.slice a 1 c) [113]) (hks:xN w) :
  Calls Tryz.prog 16 #[.slice a 1 c,.int .i64 8,.int .i64 1] w fun e w'=>(∃ sg sa sc la lc mb,e = .returned (.tuple #[.pointer (some ⟨sg,0,none⟩),.int .i64 0])∧qm w' sg (.slice sa 1 sc) (.slice la 2 lc) (k8 xR) (.map (some mb))∧zp w' (.slice sa 1 sc) [113]∧Slc w' 32 (.slice la 2 lc) 2 ((qh 2).map bv)∧qJ Tryz.prog w' 3 mb 0 (fun _=>none)∧w.heap.size≤mb)∧zb [] w w':=by
 have Gy:=qI hks
 have HB:=qI hb
 have hmm:=@run_makeMap Tryz.prog
 clear hb hks
 have Gz:Hid (jl.length=32):=qI rfl
 go_enter func16,ntmps16
 go_upto_region 2 with (refine xB Wk (.tmp 8) (.tmp 15) Wk (g:=w.heap.size) (k:=k8 jl) (k0:=yD) (zd rfl) Wk Gz.o Wk Wk ?_;intro w4 h4 hk4;have Gn:=qI h4;have Gr:Hid (zb [] w w4):=qI (((zb.refl [] w).alloc _).trans hk4 (by intro i hi;simp at hi;subst hi;exact .inr (Nat.le_refl _)));clear h4 hk4;simp only [Act.put])
 have CM:Hid (Cz w4 35 #[.agg (ye (k8 jl))] (.bool true)):=qI (by have h1:=vJ (k8 jl) (by constructor <;> decide) w4;exact h1)
 have Jr:=qI (HB.o.kept0 Gr.o)
 go_upto_region 4 with first
  | (refine zO Wk (.tmp 8) Wk Gn.o Gz.o Wk ?_)
  | (go_at_call 35;refine CM.o.mh ?_;rintro e w5 rfl Gp)
 have CL:=qI (vh _ _ _ (Jr.o.kept0 Gp.o) Wo)
 go_upto_region 5 with (go_at_call 36;refine CL.o.mono ?_;rintro e w6 ⟨v6,rfl,hnb,hk6⟩;obtain⟨sa,sc,rfl,-,-⟩:=hnb.1.form;have Jh:=qI hnb.1;have Js:=qI (fun g hg=>(hnb.2 g hg).1);have Gt:=qI hk6;clear hnb hk6)
 obtain⟨W7,Gu⟩:∃ W7,Hid (W7=(w6.alloc (.map #[] 0)).alloc (.cells (sgL (.slice sa 1 sc) (.slice none 0 0) yD (.map (some w6.heap.size))).toArray 75)):=⟨_,qI rfl⟩
 refine yq Gu.o ?_
 have Ja:Hid (zb [] w6 W7):=qI (kA2 Gu.o)
 have Jb:Hid (qm W7 (w6.heap.size+1) (.slice sa 1 sc) (.slice none 0 0) yD (.map (some w6.heap.size))):=qI (by rw [Gu.o];exact zd Wz)
 have Ji:Hid (qJ Tryz.prog W7 3 w6.heap.size 0 (fun _=>none)):=qI (by rw [Gu.o];exact (mapIs_made _ _ _).kept0 ((zb.refl [] _).alloc _))
 have Gk:Hid (zb [] w W7):=qI (Gr.o.then (Gp.o.then (Gt.o.then Ja.o)))
 have Jc:Hid (zb [] w4 W7):=qI (Gp.o.then (Gt.o.then Ja.o))
 have Jj:Hid (w6.heap.size+1<W7.heap.size):=qI (lt_of_block Jb.o)
 have Jk:Hid (0 ∉ [w6.heap.size+1]):=qI (by have:=ZX Gy.o;have:=Gr.o.size;have:=Gp.o.size;have:=Gt.o.size;intro hx;rw [List.mem_singleton] at hx;omega)
 have Gq:Hid (w.heap.size<w6.heap.size):=qI (by have:=Gn.o.lt;have:=Gp.o.size;have:=Gt.o.size;omega)
 have Jt:=qI (Gn.o.kept0 Jc.o)
 generalize hmb:w6.heap.size=mb at Jb Ji Jj Jk Gq ⊢
 have Ju:=qI hmb
 clear hmb hmm
 go_wp2_with fail
 go_loopw [10,11,12,31] (fun _ _ _ idx wr=>∃ (k:Nat) (av:Option Addr) (ac:Nat),idx = .int .i64 k∧k≤2∧qm wr (mb+1) (.slice sa 1 sc) (.slice av k ac) yD (.map (some mb))∧wr.ownsRow W7.heap.size 45 32 (.slice av k ac) k ((qh k).map bv)∧zb [mb+1] W7 wr) (fun _ _ _ idx _=>2-(intOf idx).toNat)
 case atStart=>exact⟨0,none,0,rfl,Nat.zero_le _,Jb.o,World.ownsRow_nil _ _ _ _,Wd⟩
 case round=>
  obtain⟨k,av,ac,rfl,hk,hsg,how,hkr⟩:=hrel
  have Jd:=qI hsg
  have Gv:=qI how
  have Ge:=qI hkr
  clear hsg how hkr
  rcases Nat.lt_or_ge k 2 with hlt | hlt
  ·have hltI:(k:Int)<2:=by omega
   have Gi:=qI hlt
   have CLF:Hid (Cz wr 37 #[.slice a 1 c,.int .i64 k,.int .i64 8] (.tuple #[.agg ((kU k).map bv).toArray,.int .i64 0])):=qI (by
    have h1:zp wr (.slice a 1 c) [113]:=Slc.kept (Slc.kept0 HB.o Gk.o) Ge.o (fun g hg hx=>by have:=Slc.lt HB.o hg;have:=Gq.o;simp at hx;omega)
    exact lamLeaf_any (seed:=[113]) h1 Wo k Ws ((Gy.o.kept0 Gk.o).keptX Ge.o Jk.o))
   have Gj:Hid ((kU k).length=32):=qI (kJ _ _ _)
   have Jl:Hid (qh (k+1)=qh k++kU k):=qI (qw k)
   generalize kU k=xq at CLF Gj Jl
   clear hlt
   go_upto_region 9 with first
    | (go_at_call 37;refine CLF.o.mh ?_;rintro e w8 rfl Gw)
    | (refine zq Wk (.tmp 11) (.tmp 39) Wk (g:=w8.heap.size) (l0:=xe zu 0) (zd rfl) (zJ _ _) Gj.o Wk Wk ?_;intro w9 h9 hk9;have Jv:=qI h9;have Gf:Hid (zb [] wr w9):=qI (Gw.o.then (((zb.refl [] w8).alloc _).trans hk9 (by intro i hi;simp at hi;subst hi;exact .inr (Nat.le_refl _))));clear h9 hk9;simp only [Act.put])
   have Ga:=qI (Jd.o.kept0 Gf.o)
   have Gc:=qI (zo Gv.o Gf.o Wz)
   have c1:=Ga.o.c1
   have f1:w9.frozen? ⟨mb+1,1,none⟩=false:=zh Ga.o
   go_upto_region 11 with fail
   have c1a:∀ cs:Array Value,(w9.alloc (.cells cs 45)).cell? ⟨mb+1,1,none⟩=some (.slice av k ac):=fun cs=>((zb.refl [] w9).alloc _).cell c1 Wz
   have Jm:Hid (w9.drew.rangeAt w8.heap.size 0 (xq.map bv)):=qI (show zR w9.drew w8.heap.size xq from Jv.o).range
   obtain⟨arr,Gd⟩:∃ arr,Hid (arr=(xq.map bv).toArray):=⟨_,qI rfl⟩
   have Gl:Hid (∀ (W:World),Slc (W.alloc (.cells arr 45)) 32 (.slice (some ⟨W.heap.size,0,none⟩) 1 1) 1 (xq.map bv)):=qI (fun W=>by rw [Gd.o];exact zT W (xq.map bv) 32 1 _ _ rfl (by simp [Gj.o]) Wo)
   have Gm:Hid (∀ u∈xq.map bv,u.oneCell'=true):=qI (yL _)
   rw [← Gd.o]
   refine wp_region_any Wr ?_
   change wpAny _ _ _ _ _ _ _ (World.drew _)
   refine wpAny_take (i:=0) (v:=?_) rfl Wr Wr Wr (fun _ _ _ h=>h) (Or.inl ⟨Wk,?_⟩) ?_
   rotate_left
   ·intro w;exact zi
   refine wpAny_take (i:=1) (v:=?_) rfl Wr Wr Wr (fun _ _ _ h=>h) (Or.inl ⟨Wk,?_⟩) ?_
   rotate_left
   ·intro w;exact zi
   refine wpAny_take (i:=2) (v:=?_) rfl Wr Wr Wr (fun _ _ _ h=>h) (Or.inl ⟨Wk,?_⟩) ?_
   rotate_left
   ·intro w;exact zi
   refine wpAny_take (i:=3) (v:=?_) rfl Wr Wr Wr (fun _ _ _ h=>h) (Or.inl ⟨Wk,?_⟩) ?_
   rotate_left
   ·intro w;exact zi
   refine wpAny_ready (rs:=[4,5]) Wr Wz (AllReady.cons (o:=_) rfl (fun K hK=>?_) (AllReady.cons (o:=_) rfl (fun K hK=>?_) AllReady.nil))
   go_simp
   refine hK _ _ ?_
   clear hK K
   refine wpAny_ready (rs:=[5]) Wr Wz (AllReady.cons (o:=_) rfl (fun K hK=>?_) AllReady.nil)
   refine QP Wk _ rfl (g:=w8.heap.size) (of:=0) Jm.o Gj.o Wk Gd.o ?_
   try go_simp
   refine hK _ _ ?_
   clear hK K
   refine wpAny_ready (rs:=[6]) Wr Wz (AllReady.cons (o:=_) rfl (fun K hK=>?_) AllReady.nil)
   refine bL Wk _ rfl (l:=xq) Gj.o Wk Gd.o ?_
   try go_simp
   refine hK _ _ ?_
   clear hK K
   refine wpAny_ready (rs:=[7]) Wr Wz (AllReady.cons (o:=_) rfl (fun K hK=>?_) AllReady.nil)
   refine yR YE (base:=W7.heap.size) (v:=.slice av k ac) (n:=k) (m:=1) (news:=xq.map bv) (xs:=(qh k).map bv) (zo Gc.o ((zb.refl [] w9).drew.alloc (.cells arr 45)) Wz) (Gl.o w9.drew) Gm.o Wo (by have:=Gi.o;simp only [maxLen];omega) (by have:=Gi.o;omega) (by have:=Ge.o.size;have:=Gf.o.size;simp;omega) Wk _ _ Wk Wk Wk ?_;intro g2 c2 w10 hown2 hk2 hg2;have Gg:=qI hown2;have Gb:=qI hk2;have hb3:=hk2.heap (((zb.refl [] w9).drew.alloc (.cells arr 45)).heap Ga.o Wz) (fun hx=>xt (yp Gc.o (Option.mem_toList.1 hx)) (zM Ga.o) Wo rfl);have u0:=za (o:=1) hb3 rfl;have uf:=zh (o:=1) hb3;have Gh:=qI hb3;clear hb3 hown2 hk2 hg2
   try go_simp
   refine hK _ _ ?_
   clear hK K
   refine wpAny_take (i:=8) (v:=?_) rfl Wr Wr Wr (fun _ _ _ h=>h) (Or.inl ⟨Wk,?_⟩) ?_
   rotate_left
   ·intro w;exact zi
   refine wpAny_take (i:=9) (v:=?_) rfl Wr Wr Wr (fun _ _ _ h=>h) (Or.inl ⟨Wk,?_⟩) ?_
   rotate_left
   ·intro w;exact zi
   refine wpAny_ready (rs:=[10]) Wr Wz (AllReady.cons (o:=_) rfl (fun K hK=>?_) AllReady.nil)
   go_simp
   refine hK _ _ ?_
   clear hK K
   refine wpAny_done Wr ?_ _
   rotate_left
   refine QP Wk _ rfl (g:=w8.heap.size) (of:=0) Jm.o Gj.o Wk Gd.o ?_
   try go_simp
   refine hK _ _ ?_
   clear hK K
   refine wpAny_ready (rs:=[4,6]) Wr Wz (AllReady.cons (o:=_) rfl (fun K hK=>?_) (AllReady.cons (o:=_) rfl (fun K hK=>?_) AllReady.nil))
   go_simp
   refine hK _ _ ?_
   clear hK K
   refine wpAny_ready (rs:=[6]) Wr Wz (AllReady.cons (o:=_) rfl (fun K hK=>?_) AllReady.nil)
   refine bL Wk _ rfl (l:=xq) Gj.o Wk Gd.o ?_
   try go_simp
   refine hK _ _ ?_
   clear hK K
   refine wpAny_ready (rs:=[7]) Wr Wz (AllReady.cons (o:=_) rfl (fun K hK=>?_) AllReady.nil)
   refine yR YE (base:=W7.heap.size) (v:=.slice av k ac) (n:=k) (m:=1) (news:=xq.map bv) (xs:=(qh k).map bv) (zo Gc.o ((zb.refl [] w9).drew.alloc (.cells arr 45)) Wz) (Gl.o w9.drew) Gm.o Wo (by have:=Gi.o;simp only [maxLen];omega) (by have:=Gi.o;omega) (by have:=Ge.o.size;have:=Gf.o.size;simp;omega) Wk _ _ Wk Wk Wk ?_;intro g2 c2 w10 hown2 hk2 hg2;have Gg:=qI hown2;have Gb:=qI hk2;have hb3:=hk2.heap (((zb.refl [] w9).drew.alloc (.cells arr 45)).heap Ga.o Wz) (fun hx=>xt (yp Gc.o (Option.mem_toList.1 hx)) (zM Ga.o) Wo rfl);have u0:=za (o:=1) hb3 rfl;have uf:=zh (o:=1) hb3;have Gh:=qI hb3;clear hb3 hown2 hk2 hg2
   try go_simp
   refine hK _ _ ?_
   clear hK K
   refine wpAny_take (i:=8) (v:=?_) rfl Wr Wr Wr (fun _ _ _ h=>h) (Or.inl ⟨Wk,?_⟩) ?_
   rotate_left
   ·intro w;exact zi
   refine wpAny_take (i:=9) (v:=?_) rfl Wr Wr Wr (fun _ _ _ h=>h) (Or.inl ⟨Wk,?_⟩) ?_
   rotate_left
   ·intro w;exact zi
   refine wpAny_ready (rs:=[10]) Wr Wz (AllReady.cons (o:=_) rfl (fun K hK=>?_) AllReady.nil)
   go_simp
   refine hK _ _ ?_
   clear hK K
   refine wpAny_done Wr ?_ _
   rotate_left
   refine bL Wk _ rfl (l:=xq) Gj.o Wk Gd.o ?_
   try go_simp
   refine hK _ _ ?_
   clear hK K
   refine wpAny_ready (rs:=[4]) Wr Wz (AllReady.cons (o:=_) rfl (fun K hK=>?_) AllReady.nil)
   go_simp
   refine hK _ _ ?_
   clear hK K
   refine wpAny_ready (rs:=[7]) Wr Wz (AllReady.cons (o:=_) rfl (fun K hK=>?_) AllReady.nil)
   refine yR YE (base:=W7.heap.size) (v:=.slice av k ac) (n:=k) (m:=1) (news:=xq.map bv) (xs:=(qh k).map bv) (zo Gc.o ((zb.refl [] w9).drew.alloc (.cells arr 45)) Wz) (Gl.o w9.drew) Gm.o Wo (by have:=Gi.o;simp only [maxLen];omega) (by have:=Gi.o;omega) (by have:=Ge.o.size;have:=Gf.o.size;simp;omega) Wk _ _ Wk Wk Wk ?_;intro g2 c2 w10 hown2 hk2 hg2;have Gg:=qI hown2;have Gb:=qI hk2;have hb3:=hk2.heap (((zb.refl [] w9).drew.alloc (.cells arr 45)).heap Ga.o Wz) (fun hx=>xt (yp Gc.o (Option.mem_toList.1 hx)) (zM Ga.o) Wo rfl);have u0:=za (o:=1) hb3 rfl;have uf:=zh (o:=1) hb3;have Gh:=qI hb3;clear hb3 hown2 hk2 hg2
   try go_simp
   refine hK _ _ ?_
   clear hK K
   refine wpAny_take (i:=8) (v:=?_) rfl Wr Wr Wr (fun _ _ _ h=>h) (Or.inl ⟨Wk,?_⟩) ?_
   rotate_left
   ·intro w;exact zi
   refine wpAny_take (i:=9) (v:=?_) rfl Wr Wr Wr (fun _ _ _ h=>h) (Or.inl ⟨Wk,?_⟩) ?_
   rotate_left
   ·intro w;exact zi
   refine wpAny_ready (rs:=[10]) Wr Wz (AllReady.cons (o:=_) rfl (fun K hK=>?_) AllReady.nil)
   go_simp
   refine hK _ _ ?_
   clear hK K
   refine wpAny_done Wr ?_ _
   all_goals
    go_wp2_with fail
    have ks:zb [mb+1] w10 (w10.setCell ⟨mb+1,1,none⟩ (.slice (some ⟨g2,0,none⟩) (k+1) c2)):=(zb.refl _ w10).setCell (.inl Wz) _
    have hb5:=zg (i:=1) (v:=.slice (some ⟨g2,0,none⟩) (k+1) c2) (d:=(sgL (.slice sa 1 sc) (.slice (some ⟨g2,0,none⟩) (k+1) c2) yD (.map (some mb))).toArray) Gh.o rfl
    have ho5:(w10.setCell ⟨mb+1,1,none⟩ (.slice (some ⟨g2,0,none⟩) (k+1) c2)).ownsRow W7.heap.size 45 32 (.slice (some ⟨g2,0,none⟩) (k+1) c2) (k+1) ((qh (k+1)).map bv):=by
     rw [Jl.o,List.map_append]
     exact zo Gg.o ks (fun g hg hx=>by
      simp at hx
      subst hx
      exact xt (yp Gg.o hg) (zM Gh.o) Wo rfl)
    have hk5:=((((Ge.o.then Gf.o).then ((zb.refl [] w9).drew.alloc (.cells arr 45))).trans Gb.o (fun i hi=>.inr (Gc.o.lt i (Option.mem_toList.1 hi)).1))).setCell (p:=⟨mb+1,1,none⟩) (.inl Wz) (.slice (some ⟨g2,0,none⟩) (k+1) c2)
    exact⟨⟨k+1,some ⟨g2,0,none⟩,c2,by go_num,by have:=Gi.o;omega,hb5,ho5,hk5⟩,by have:=Gi.o;simp [intOf];omega⟩
  ·obtain rfl:k=2:=by omega
   obtain⟨ga,rfl⟩:=JT Gv.o Wo
   have Jw:Hid (qh 2=kU 0++kU 1):=qI (by rw [qw,qw];rfl)
   have Jn:Hid (Slc wr 32 (.slice (some ⟨ga,0,none⟩) 2 ac) 2 ((qh 2).map bv)):=qI (Slc.of_row Gv.o)
   have Jo:Hid (zb [] w wr):=qI (Gk.o.trans Ge.o (by intro i hi;simp at hi;subst hi;exact .inr (by have:=Gq.o;omega)))
   have CR:Hid (Cz wr 38 #[.slice (some ⟨ga,0,none⟩) 2 ac] (.tuple #[.agg (xR.map bv).toArray,.int .i64 0])):=qI (by
    have h1:=Jn.o
    rw [Jw.o] at h1
    exact root_any (kJ _ _ _) (kJ _ _ _) h1 (Gy.o.kept0 Jo.o))
   have Gx:Hid (xR.length=32):=qI (yP _ _)
   have Jx:Hid (yw wr w.heap.size (k8 jl)):=qI (Ge.o.heap Jt.o (by have:=Gq.o;simp;omega))
   have c1:=Jd.o.c1
   obtain⟨rq,Jp⟩:∃ rq,Hid (rq=xR):=⟨_,qI rfl⟩
   rw [← Jp.o] at CR Gx
   go_upto_region 14 with first
    | (go_at_call 38;refine CR.o.mono ?_;rintro e w8 ⟨rfl,hk8⟩;have Gw:=qI hk8;have Jy:=qI (Jx.o.kept0 hk8);clear hk8)
    | (refine QK Wk (.tmp 63) (.tmp 61) Wk (g:=w.heap.size) (b:=8) (h:=1) (r:=jl) Jy.o Gz.o Gx.o Wk Wk ?_;intro w9 h9 hk9;have Jz:=qI h9;have Gf:=qI hk9;clear h9 hk9)
   have Ga:Hid (qm w9 (mb+1) (.slice sa 1 sc) (.slice (some ⟨ga,0,none⟩) 2 ac) yD (.map (some mb))):=qI (Gf.o.heap (Jd.o.kept0 Gw.o) (by have:=Gq.o;simp;omega))
   clear c1
   go_wp2_with first
    | (refine zO Wk (.tmp 8) Wk (k:=k8 rq) Jz.o Gx.o Wk ?_)
    | (refine JX Wk (.tmp 67) (.tmp 65) Wk (g:=mb+1) (k:=k8 rq) (k0:=yD) Ga.o Wk Gx.o Wk Wk ?_;intro w10 h10 hk10;have Gs:=qI h10;have Gb:=qI hk10;clear h10 hk10)
   go_ret2
   have hwk:zb [w.heap.size] wr w9:=(Gw.o.mono Wz).trans' Gf.o
   rw [← Jp.o]
   have hlw:=Gq.o
   have hs7:=Jj.o
   have hmb:=Ju.o
   refine⟨⟨mb+1,sa,sc,some ⟨ga,0,none⟩,ac,mb,rfl,Gs.o,?_,?_,?_,Ws⟩,?_⟩
   ·have hb:∀ g,zW (.slice sa [113].length sc)=some g→g≠mb+1∧g≠w.heap.size:=fun g hg=>by
     have h1:=Slc.lt Jh.o hg
     have h2:=Js.o g hg
     have h3:=Gn.o.lt
     have h4:=Gp.o.size
     omega
    exact Slc.kept (Slc.kept (Slc.kept (Slc.kept0 Jh.o Ja.o) Ge.o (fun g hg hx=>(hb g hg).1 (by simpa using hx))) hwk (fun g hg hx=>(hb g hg).2 (by simpa using hx))) Gb.o (fun g hg hx=>(hb g hg).1 (by simpa using hx))
   ·have hb:∀ g,zW (.slice (some ⟨ga,0,none⟩) 2 ac)=some g→W7.heap.size≤g:=fun g hg=>(Gv.o.lt g (z6 hg)).1
    exact (Jn.o.kept hwk (fun g hg hx=>by have:=hb g hg;simp at hx;omega)).kept Gb.o (fun g hg hx=>by have:=hb g hg;simp at hx;omega)
   ·exact ((Ji.o.kept Ge.o Wz).kept hwk (by simp;omega)).kept Gb.o Wz
   ·exact (Jo.o.trans hwk (by intro i hi;simp at hi;subst hi;exact .inr (Nat.le_refl _))).trans Gb.o (by intro i hi;simp at hi;subst hi;exact .inr Ws)
theorem JP {w:World}{g:Nat}{sa la mv:Value}{k:zY}(h:qm w g sa la k mv) (hr:k.root.length=32) :
  CL w 19 #[.pointer (some ⟨g,0,none⟩)] (.agg (ye k)):=by
 obtain⟨W0,Je⟩:∃ W0,Hid (W0=w.alloc (.cells (ye yD) 47)):=⟨_,qI rfl⟩
 have Jq:Hid (zb [] w W0):=qI (kA1 Je.o)
 have Jf:Hid (yw W0 w.heap.size yD):=qI (by rw [Je.o];exact zd rfl)
 have HK:=qI (h.kept0 Jq.o).key
 have Jg:=qI hr
 have Ma:Hid (yD.root.length=32):=qI Wk
 clear h hr
 go_enter func19,ntmps19
 go_upto_region 1 with fail
 refine yq Je.o ?_
 go_wp2_with first
  | (refine jI Wk (.tmp 8) Wk (g:=g) (of:=2) HK.o Jg.o Wk ?_)
  | (refine xB Wk (.tmp 2) (.tmp 9) Wk (g:=w.heap.size) (k:=k) (k0:=yD) Jf.o Ma.o Jg.o Wk Wk ?_;intro w4 h4 hk4;have Gn:=qI h4;have Gr:=qI hk4;clear h4 hk4;simp only [Act.put])
 have hres:=Gn.o.var Jg.o
 refine bodyPost_ret (v:=.agg (ye k)) (by simp only [results,results19];simp [hres,Sem.run_bind,asAddr,Act.put]) rfl ?_
 exact⟨rfl,Jq.o.trans Gr.o (by intro i hi;simp at hi;subst hi;exact .inr (Nat.le_refl _))⟩
theorem JK (w:World) (g:Nat) (am:Option Addr) (mn cm:Nat) (hm:mn≤1048576) :
  Calls Tryz.prog 75 #[.pointer (some ⟨g,0,none⟩),.slice am mn cm] w fun e w'=>e = .returned (.int .i64 0)∧w=w':=by
 have hmI:(mn:Int)≤1048576:=Ws
 have hd:decide ((1048576:Int)<(mn:Int))=false:=decide_eq_false Ws
 clear hm
 go_enter func75,ntmps75
 go_wp2_with fail
 go_ret
 exact⟨rfl,rfl⟩
theorem used_any {w:World}{g mb n:Nat}{sa la:Value}{k:zY}{M:Lit→Option Value}(h:qm w g sa la k (.map (some mb))) (hr:k.root.length=32) (hm:qJ Tryz.prog w 3 mb n M) (i:Nat) (hi:i≤1000) (hs:∀ v,M (.int .i64 i)=some v→∃ s,v = .string s) :
  Calls Tryz.prog 76 #[.pointer (some ⟨g,0,none⟩),.int .i64 i] w fun e w'=>e = .returned (.bool (M (.int .i64 i)).isSome)∧w=w':=by
 have hw:(Lit.int .i64 i).wf=true:=by
  have h1:IntKind.i64.min = -9223372036854775808:=rfl
  have h2:IntKind.i64.max=9223372036854775807:=rfl
  simp only [Lit.wf,h1,h2,Bool.and_eq_true,decide_eq_true_eq]
  omega
 have hl:=(hm.at.lookup keyInt underlying72 (z:=.string ⟨#[]⟩) (zeroValue9 w) (Maps.keyOf_int_mk underlying3 hw)).1
 have cm:=h.cm hr
 clear h hm hw hr
 generalize M (.int .i64 i)=o at hl hs ⊢
 generalize o.isSome=b at hl ⊢
 generalize o.getD (.string ⟨#[]⟩)=v at hl
 go_enter func76,ntmps76
 go_wp2_with fail
 go_ret
 exact⟨rfl,rfl⟩
end Go.Proofs.YtibnfbglanpoiaaGreatDoor

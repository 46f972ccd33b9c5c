/- Parts of one proof, merged: XBL XIN XBA XBM. -/
import Derived.Test.YtibnfbglanpoiaaGreatDoorQcY
import Derived.Test.YtibnfbglanpoiaaGreatDoorQcT
import Derived.Test.YtibnfbglanpoiaaGreatDoorQcZ
import Derived.Great.BuildSlice
import Derived.Deep.RegionLaw
import Derived.Test.YtibnfbglanpoiaaGreatDoorQcR
import Derived.Test.YtibnfbglanpoiaaGreatDoorQcQ
import Derived.Test.YtibnfbglanpoiaaGreatDoorQcE
set_option linter.all false
set_option maxHeartbeats 12800000
set_option maxRecDepth 10000
set_option linter.unusedVariables false
set_option linter.unusedSimpArgs false
set_option linter.unnecessarySimpa false
namespace Go.Proofs.YtibnfbglanpoiaaGreatDoor
open Go.Proofs.Tryz
open Go.RowKit
open Go.Maps (Keyed)
attribute [local go_sem] Oper.semAt_some
def sgL (sa la:Value) (k:zP) (mv:Value):List Value:=sa :: la :: (kT k ++ [mv])
def xS (w:World) (g:Nat) (sa la:Value) (k:zP) (mv:Value):Prop:=w.heap[g]? = some (.cells (sgL sa la k mv).toArray 75 (0,0))
theorem xS.kept0 {w w':World}{g:Nat}{sa la mv:Value}{k:zP}(h:xS w g sa la k mv) (hk:zb [] w w'):xS w' g sa la k mv:=hk.heap h (by simp)
theorem xS.key {w:World}{g:Nat}{sa la mv:Value}{k:zP}(h:xS w g sa la k mv):w.rangeAt g 2 (kT k):=fun j v hv=>by
 refine za h ?_
 have hj:=(List.getElem?_eq_some_iff.1 hv).1
 rw [sgL,List.getElem?_toArray,show 2 + j=j + 1 + 1 by omega,List.getElem?_cons_succ,List.getElem?_cons_succ,List.getElem?_append_left hj]
 exact hv
theorem xS.c0 {w:World}{g:Nat}{sa la mv:Value}{k:zP}(h:xS w g sa la k mv):w.cell? ⟨g,0,none⟩=some sa:=za h rfl
theorem xS.c1 {w:World}{g:Nat}{sa la mv:Value}{k:zP}(h:xS w g sa la k mv):w.cell? ⟨g,1,none⟩=some la:=za h rfl
theorem xS.c2 {w:World}{g:Nat}{sa la mv:Value}{k:zP}(h:xS w g sa la k mv):w.cell? ⟨g,2,none⟩=some (.int .i64 k.bits):=za h rfl
theorem xS.cm {w:World}{g:Nat}{sa la mv:Value}{k:zP}(h:xS w g sa la k mv) (hl:k.root.length=32):w.cell? ⟨g,36,none⟩=some mv:=by
 refine za h ?_
 have h1:=xe hl
 rw [sgL,List.getElem?_toArray,List.getElem?_cons_succ,List.getElem?_cons_succ,List.getElem?_append_right (by omega),h1]
 rfl
theorem sgL_len {sa la mv:Value}{k:zP}(h:k.root.length=32):(sgL sa la k mv).length=37:=by
 simp [sgL,xe h]
theorem sgL_get {sa la mv:Value}{k:zP}(h:k.root.length=32) (i:Nat) (hi:2≤i):(sgL sa la k mv)[i]? = if i < 36 then (kT k)[i - 2]? else if i=36 then some mv else none:=by
 have h1:=xe h
 obtain⟨j,rfl⟩:∃ j,i=j + 2:=⟨i - 2,by omega⟩
 show (kT k ++ [mv])[j]? = _
 rw [Nat.add_sub_cancel]
 by_cases hj:j + 2 < 36
 ·rw [if_pos hj,List.getElem?_append_left (by omega)]
 ·rw [if_neg hj,List.getElem?_append_right (by omega),h1]
  by_cases h36:j + 2=36
  ·rw [if_pos h36,show j - 34=0 by omega];rfl
  ·rw [if_neg h36,List.getElem?_eq_none (by simp;omega)]
theorem xS.setKey {w:World}{g:Nat}{sa la mv:Value}{k k':zP}(h:xS w g sa la k mv) (hl:k.root.length=32) (hl':k'.root.length=32):xS (w.setCells g 2 (kT k')) g sa la k' mv:=by
 obtain⟨cur,h1,h2,h3⟩:=xx g (kT k') 2 w _ h
 have hz:(sgL sa la k mv).toArray.size=37:=by simp [sgL_len hl]
 have hk':=xe hl'
 have e:cur=(sgL sa la k' mv).toArray:=by
  apply Array.ext'
  apply List.ext_getElem?
  intro i
  rw [List.toList_toArray,Array.getElem?_toList]
  by_cases hi:i < 37
  ·rw [h3 i (by rw [hz];exact hi)]
   by_cases h2i:2≤i
   ·rw [sgL_get hl' i h2i]
    by_cases h36:i < 36
    ·rw [if_pos (by omega),if_pos h36]
    ·rw [if_neg (by omega),if_neg h36,List.getElem?_toArray,sgL_get hl i h2i,if_neg h36]
   ·rw [if_neg (by omega)]
    obtain rfl | rfl:i=0∨i=1:=by omega
    ·rfl
    ·rfl
  ·rw [Array.getElem?_eq_none (by rw [h2,hz];omega),List.getElem?_eq_none (by rw [sgL_len hl'];omega)]
 unfold xS
 rw [h1,e]
theorem Ks {ops:Array Oper}{rest:List Oper}{op:Oper}{a:Act}{w:World}{Q:Exit→Act→World→Prop}(hgd:op.guard=none) (x y:Operand) (ho:op.op = .store 47 x y) {g:Nat}{sa la mv:Value}{k k0:zP}(h0:xS w g sa la k0 mv) (hl0:k0.root.length=32) (hl:k.root.length=32)
  (hx:a.eval x = .pointer (some ⟨g,2,none⟩)) (hy:a.eval y = .agg (yi k)) (h:∀ w',xS w' g sa la k mv→zb [g] w w'→wpList Tryz.prog ops Q rest (a.put op.dst undef) w'):wpList Tryz.prog ops Q (op :: rest) a w:=by
 have hsz:(yi k).size=34:=by simp [yi,xe hl]
 refine wpList_store_mid hgd 47 x y ho g 2 (yi k) hx hy (fun j hj=>?_) (by rw [hsz];exact Y0) (all_oneCell_toArray (Kc k)) (h _ ?_ (z7 _ _ _ _))
 ·rw [hsz] at hj
  have hj':2 + j < (sgL sa la k0 mv).length:=by rw [sgL_len hl0];omega
  exact⟨by rw [za (v:=(sgL sa la k0 mv)[2 + j]) h0 (by simp [hj'])];rfl,zh h0⟩
 ·exact h0.setKey hl0 hl
def k8 (root:List UInt8):zP:=⟨8,1,root⟩
def kw (i:Nat):List UInt8:=bR [113] i 8
def xM (k:Nat):List UInt8:=((List.range k).map kw).flatten
def xB:List UInt8:=xC (kw 0) (kw 1)
theorem xY (k:Nat):xM (k + 1)=xM k ++ kw k:=by
 unfold xM
 rw [List.range_succ,List.map_append,List.flatten_append]
 simp
theorem keyInt:Keyed Tryz.prog 3:=Maps.int_keyed underlying3
theorem run_slice32 (W:World) (cs:List Value) (hl:cs.length=32):(Instr.buildSlice 73 1 #[(0,.agg cs.toArray)]).run Tryz.prog W = .ok (.slice (some ⟨W.heap.size,0,none⟩) 1 1) (W.alloc (.cells cs.toArray 45)):=by
 obtain⟨ie,hie⟩:∃ ie,Tryz.prog.info? 45=some ie:=by
  cases h9:Tryz.prog.info? 45 with
  | none=>have hi:=xX;rw [h9] at hi;cases hi
  | some ie=>exact⟨ie,rfl⟩
 have hsz:ie.size=32:=by
  have hi:=xX
  rw [hie] at hi
  simpa using hi
 obtain⟨z,hz⟩:∃ z,ie.zero=some z:=by
  have hz:=bg
  rw [hie] at hz
  exact Option.isSome_iff_exists.1 hz
 exact run_buildSlice W _ _ 1 #[(0,.agg cs.toArray)] cs.toArray ie z underlying73 hie hz (by rw [hsz];decide) (by rw [hsz];decide) (by
  have h1:=Ku (n:=32) hl (by decide) z
  rw [hsz]
  exact h1)
section
variable {ops : Array Oper} {o : Oper} {a : Act} {w : World} {K : Act → World → Prop} {Q : Exit → Act → World → Prop} {E : Prop}
theorem Qv (hg:o.guard=none) (x:Operand) (ho:o.op = .load 45 x) {g of:Nat}{l:List UInt8}{arr:Array Value}(h0:w.rangeAt g of (l.map bv)) (hl:l.length=32) (hx:a.eval x = .pointer (some ⟨g,of,none⟩)) (he:arr=(l.map bv).toArray) (hK:K (a.put o.dst (.agg arr)) w) :
  if Region.wanted o (yielded ops a.tmps)=true then Oper.wp Tryz.prog o a w K Q else E:=by
 subst he
 rw [if_pos (by simp [Region.wanted,hg])]
 exact wp_load_mid 45 x ho g of hx (l.map bv) _ h0 underlying45 rfl (by rw [List.length_map,hl];exact xX) hK
theorem vU (hg:o.guard=none) (x:Operand) (ho:o.op = .buildSlice 73 1 #[(0,x)]) {l:List UInt8}{arr:Array Value}(hl:l.length=32) (hx:a.eval x = .agg arr) (he:arr=(l.map bv).toArray) (hK:K (a.put o.dst (.slice (some ⟨w.heap.size,0,none⟩) 1 1)) (w.alloc (.cells arr 45))) :
  if Region.wanted o (yielded ops a.tmps)=true then Oper.wp Tryz.prog o a w K Q else E:=by
 rw [if_pos (by simp [Region.wanted,hg])]
 unfold Oper.wp execOp
 simp only [ho,Sem.run_bind,List.map_toArray,List.map_cons,List.map_nil,hx]
 have h1:=run_slice32 w (l.map bv) (by simp [hl])
 rw [← he] at h1
 rw [h1]
 exact hK
end
set_option maxRecDepth 100000 in
theorem JC {w:World}{a:Option Addr}{c:Nat}(hb:zp w (.slice a 1 c) [113]) (hks:xz w) :
  Calls Tryz.prog 16 #[.slice a 1 c,.int .i64 8,.int .i64 1] w fun e w'=>(∃ sg sa sc la lc mb,e = .returned (.tuple #[.pointer (some ⟨sg,0,none⟩),.int .i64 0])∧xS w' sg (.slice sa 1 sc) (.slice la 2 lc) (k8 xB) (.map (some mb))∧zp w' (.slice sa 1 sc) [113]∧Slc w' 32 (.slice la 2 lc) 2 ((xM 2).map bv)∧qq Tryz.prog w' 3 mb 0 (fun _=>none)∧w.heap.size≤mb)∧zb [] w w':=by
 have Jf:=qI hks
 have HB:=qI hb
 have hmm:=@run_makeMap Tryz.prog
 clear hb hks
 have Jg:Hid (kR.length=32):=qI rfl
 go_enter func16,ntmps16
 go_upto_region 2 with (refine yS (by rfl) (.tmp 8) (.tmp 15) (by rfl) (g:=w.heap.size) (k:=k8 kR) (k0:=yg) (zd rfl) (by rfl) Jg.o (by rfl) (by rfl) ?_;intro w4 h4 hk4;have Gg:=qI h4;have Gj:Hid (zb [] w w4):=qI (((zb.refl [] w).alloc _).trans hk4 (by intro i hi;simp at hi;subst hi;exact .inr (Nat.le_refl _)));clear h4 hk4;simp only [Act.put])
 have CM:Hid (Calls Tryz.prog 35 #[.agg (yi (k8 kR))] w4 fun e w'=>e = .returned (.bool true)∧zb [] w4 w'):=qI (by have h1:=j0 (k8 kR) (by constructor <;> decide) w4;exact h1)
 have Jv:=qI (HB.o.kept0 Gj.o)
 go_upto_region 4 with first
  | (refine zT (by rfl) (.tmp 8) (by rfl) Gg.o Jg.o (by rfl) ?_)
  | (go_at_call 35;refine CM.o.mono ?_;rintro e w5 ⟨rfl,hk5⟩;have Gv:=qI hk5;clear hk5)
 have CL:=qI (jx _ _ _ (Jv.o.kept0 Gv.o) (by decide))
 go_upto_region 5 with (go_at_call 36;refine CL.o.mono ?_;rintro e w6 ⟨v6,rfl,hnb,hk6⟩;obtain⟨sa,sc,rfl,-,-⟩:=hnb.1.form;have Jm:=qI hnb.1;have Jw:=qI (fun g hg=>(hnb.2 g hg).1);have Ja:=qI hk6;clear hnb hk6)
 obtain⟨W7,Jb⟩:∃ W7,Hid (W7=(w6.alloc (.map #[] 0)).alloc (.cells (sgL (.slice sa 1 sc) (.slice none 0 0) yg (.map (some w6.heap.size))).toArray 75)):=⟨_,qI rfl⟩
 change Code.wp _ _ _ _ ((w6.alloc (.map #[] 0)).alloc (.cells (sgL (.slice sa 1 sc) (.slice none 0 0) yg (.map (some w6.heap.size))).toArray 75))
 rw [← Jb.o]
 have Jh:Hid (zb [] w6 W7):=qI (by rw [Jb.o];exact ((zb.refl _ _).alloc _).alloc _)
 have Ji:Hid (xS W7 (w6.heap.size + 1) (.slice sa 1 sc) (.slice none 0 0) yg (.map (some w6.heap.size))):=qI (by rw [Jb.o];exact zd (by simp))
 have Jn:Hid (qq Tryz.prog W7 3 w6.heap.size 0 (fun _=>none)):=qI (by rw [Jb.o];exact (mapIs_made _ _ _).kept0 ((zb.refl [] _).alloc _))
 have Gs:Hid (zb [] w W7):=qI (Gj.o.then (Gv.o.then (Ja.o.then Jh.o)))
 have Jj:Hid (zb [] w4 W7):=qI (Gv.o.then (Ja.o.then Jh.o))
 have Jo:Hid (w6.heap.size + 1 < W7.heap.size):=qI (lt_of_block Ji.o)
 have Jp:Hid (0 ∉ [w6.heap.size + 1]):=qI (by have:=Zq Jf.o;have:=Gj.o.size;have:=Gv.o.size;have:=Ja.o.size;intro hx;rw [List.mem_singleton] at hx;omega)
 have Gw:Hid (w.heap.size < w6.heap.size):=qI (by have:=Gg.o.lt;have:=Gv.o.size;have:=Ja.o.size;omega)
 have Jx:=qI (Gg.o.kept0 Jj.o)
 generalize hmb:w6.heap.size=mb at Ji Jn Jo Jp Gw ⊢
 have Jy:=qI hmb
 clear hmb hmm
 go_wp2_with fail
 go_loopw [10,11,12,31] (fun _ _ _ idx wr=>∃ (k:Nat) (av:Option Addr) (ac:Nat),idx = .int .i64 k∧k≤2∧xS wr (mb + 1) (.slice sa 1 sc) (.slice av k ac) yg (.map (some mb))∧wr.ownsRow W7.heap.size 45 32 (.slice av k ac) k ((xM k).map bv)∧zb [mb + 1] W7 wr) (fun _ _ _ idx _=>2 - (intOf idx).toNat)
 case atStart=>exact⟨0,none,0,rfl,Nat.zero_le _,Ji.o,World.ownsRow_nil _ _ _ _,zb.refl _ _⟩
 case round=>
  obtain⟨k,av,ac,rfl,hk,hsg,how,hkr⟩:=hrel
  have Jk:=qI hsg
  have Jc:=qI how
  have Gh:=qI hkr
  clear hsg how hkr
  rcases Nat.lt_or_ge k 2 with hlt | hlt
  ·have hltI:(k:Int) < 2:=by omega
   have Gp:=qI hlt
   have CLF:Hid (Calls Tryz.prog 37 #[.slice a 1 c,.int .i64 k,.int .i64 8] wr fun e w'=>e = .returned (.tuple #[.agg ((kw k).map bv).toArray,.int .i64 0])∧zb [] wr w'):=qI (by
    have h1:zp wr (.slice a 1 c) [113]:=Slc.kept (Slc.kept0 HB.o Gs.o) Gh.o (fun g hg hx=>by have:=Slc.lt HB.o hg;have:=Gw.o;simp at hx;omega)
    exact lamLeaf_any (seed:=[113]) h1 (by decide) k (by omega) ((Jf.o.kept0 Gs.o).keptX Gh.o Jp.o))
   have Gq:Hid ((kw k).length=32):=qI (qX _ _ _)
   have Jq:Hid (xM (k + 1)=xM k ++ kw k):=qI (xY k)
   generalize kw k=xq at CLF Gq Jq
   clear hlt
   go_upto_region 9 with first
    | (go_at_call 37;refine CLF.o.mono ?_;rintro e w8 ⟨rfl,hk8⟩;have Jd:=qI hk8;clear hk8)
    | (refine zu (by rfl) (.tmp 11) (.tmp 39) (by rfl) (g:=w8.heap.size) (l0:=xy zw 0) (zd rfl) (z6 _ _) Gq.o (by rfl) (by rfl) ?_;intro w9 h9 hk9;have Jz:=qI h9;have Gk:Hid (zb [] wr w9):=qI (Jd.o.then (((zb.refl [] w8).alloc _).trans hk9 (by intro i hi;simp at hi;subst hi;exact .inr (Nat.le_refl _))));clear h9 hk9;simp only [Act.put])
   have Ga:=qI (Jk.o.kept0 Gk.o)
   have Gc:=qI (zk Jc.o Gk.o (by simp))
   have c1:=Ga.o.c1
   have f1:w9.frozen? ⟨mb + 1,1,none⟩=false:=zh Ga.o
   go_upto_region 11 with fail
   have c1a:∀ cs:Array Value,(w9.alloc (.cells cs 45)).cell? ⟨mb + 1,1,none⟩=some (.slice av k ac):=fun cs=>((zb.refl [] w9).alloc _).cell c1 (by simp)
   have Jr:Hid (w9.drew.rangeAt w8.heap.size 0 (xq.map bv)):=qI (show yf w9.drew w8.heap.size xq from Jz.o).range
   obtain⟨arr,Gd⟩:∃ arr,Hid (arr=(xq.map bv).toArray):=⟨_,qI rfl⟩
   have Gt:Hid (∀ (W:World),Slc (W.alloc (.cells arr 45)) 32 (.slice (some ⟨W.heap.size,0,none⟩) 1 1) 1 (xq.map bv)):=qI (fun W=>by rw [Gd.o];exact zV W (xq.map bv) 32 1 _ _ rfl (by simp [Gq.o]) (by decide))
   have Gu:Hid (∀ u ∈ xq.map bv,u.oneCell'=true):=qI (xu _)
   rw [← Gd.o]
   refine wp_region_any (by kernel_rfl) ?_
   change wpAny _ _ _ _ _ _ _ (World.drew _)
   refine wpAny_take (i:=0) (v:=?_) rfl (by kernel_rfl) (by kernel_rfl) (by kernel_rfl) (fun _ _ _ h=>h) (Or.inl ⟨by rfl,?_⟩) ?_
   rotate_left
   ·intro w;go_simp;try with_reducible rfl
   refine wpAny_take (i:=1) (v:=?_) rfl (by kernel_rfl) (by kernel_rfl) (by kernel_rfl) (fun _ _ _ h=>h) (Or.inl ⟨by rfl,?_⟩) ?_
   rotate_left
   ·intro w;go_simp;try with_reducible rfl
   refine wpAny_take (i:=2) (v:=?_) rfl (by kernel_rfl) (by kernel_rfl) (by kernel_rfl) (fun _ _ _ h=>h) (Or.inl ⟨by rfl,?_⟩) ?_
   rotate_left
   ·intro w;go_simp;try with_reducible rfl
   refine wpAny_take (i:=3) (v:=?_) rfl (by kernel_rfl) (by kernel_rfl) (by kernel_rfl) (fun _ _ _ h=>h) (Or.inl ⟨by rfl,?_⟩) ?_
   rotate_left
   ·intro w;go_simp;try with_reducible rfl
   refine wpAny_ready (rs:=[4,5]) (by kernel_rfl) (by simp) (AllReady.cons (o:=_) rfl (fun K hK=>?_) (AllReady.cons (o:=_) rfl (fun K hK=>?_) AllReady.nil))
   go_simp
   refine hK _ _ ?_
   clear hK K
   refine wpAny_ready (rs:=[5]) (by kernel_rfl) (by simp) (AllReady.cons (o:=_) rfl (fun K hK=>?_) AllReady.nil)
   refine Qv (by rfl) _ rfl (g:=w8.heap.size) (of:=0) Jr.o Gq.o (by rfl) Gd.o ?_
   try go_simp
   refine hK _ _ ?_
   clear hK K
   refine wpAny_ready (rs:=[6]) (by kernel_rfl) (by simp) (AllReady.cons (o:=_) rfl (fun K hK=>?_) AllReady.nil)
   refine vU (by rfl) _ rfl (l:=xq) Gq.o (by rfl) Gd.o ?_
   try go_simp
   refine hK _ _ ?_
   clear hK K
   refine wpAny_ready (rs:=[7]) (by kernel_rfl) (by simp) (AllReady.cons (o:=_) rfl (fun K hK=>?_) AllReady.nil)
   refine qe QG (base:=W7.heap.size) (v:=.slice av k ac) (n:=k) (m:=1) (news:=xq.map bv) (xs:=(xM k).map bv) (zk Gc.o ((zb.refl [] w9).drew.alloc (.cells arr 45)) (by simp)) (Gt.o w9.drew) Gu.o (by decide) (by have:=Gp.o;simp only [maxLen];omega) (by have:=Gp.o;omega) (by have:=Gh.o.size;have:=Gk.o.size;simp;omega) (by rfl) _ _ (by rfl) (by rfl) (by rfl) ?_;intro g2 c2 w10 hown2 hk2 hg2;have Gl:=qI hown2;have Gb:=qI hk2;have hb3:=hk2.heap (((zb.refl [] w9).drew.alloc (.cells arr 45)).heap Ga.o (by simp)) (fun hx=>yL (yd Gc.o (Option.mem_toList.1 hx)) (zH Ga.o) (by decide) rfl);have u0:=za (o:=1) hb3 rfl;have uf:=zh (o:=1) hb3;have Gm:=qI hb3;clear hb3 hown2 hk2 hg2
   try go_simp
   refine hK _ _ ?_
   clear hK K
   refine wpAny_take (i:=8) (v:=?_) rfl (by kernel_rfl) (by kernel_rfl) (by kernel_rfl) (fun _ _ _ h=>h) (Or.inl ⟨by rfl,?_⟩) ?_
   rotate_left
   ·intro w;go_simp;try with_reducible rfl
   refine wpAny_take (i:=9) (v:=?_) rfl (by kernel_rfl) (by kernel_rfl) (by kernel_rfl) (fun _ _ _ h=>h) (Or.inl ⟨by rfl,?_⟩) ?_
   rotate_left
   ·intro w;go_simp;try with_reducible rfl
   refine wpAny_ready (rs:=[10]) (by kernel_rfl) (by simp) (AllReady.cons (o:=_) rfl (fun K hK=>?_) AllReady.nil)
   go_simp
   refine hK _ _ ?_
   clear hK K
   refine wpAny_done (by kernel_rfl) ?_ _
   rotate_left
   refine Qv (by rfl) _ rfl (g:=w8.heap.size) (of:=0) Jr.o Gq.o (by rfl) Gd.o ?_
   try go_simp
   refine hK _ _ ?_
   clear hK K
   refine wpAny_ready (rs:=[4,6]) (by kernel_rfl) (by simp) (AllReady.cons (o:=_) rfl (fun K hK=>?_) (AllReady.cons (o:=_) rfl (fun K hK=>?_) AllReady.nil))
   go_simp
   refine hK _ _ ?_
   clear hK K
   refine wpAny_ready (rs:=[6]) (by kernel_rfl) (by simp) (AllReady.cons (o:=_) rfl (fun K hK=>?_) AllReady.nil)
   refine vU (by rfl) _ rfl (l:=xq) Gq.o (by rfl) Gd.o ?_
   try go_simp
   refine hK _ _ ?_
   clear hK K
   refine wpAny_ready (rs:=[7]) (by kernel_rfl) (by simp) (AllReady.cons (o:=_) rfl (fun K hK=>?_) AllReady.nil)
   refine qe QG (base:=W7.heap.size) (v:=.slice av k ac) (n:=k) (m:=1) (news:=xq.map bv) (xs:=(xM k).map bv) (zk Gc.o ((zb.refl [] w9).drew.alloc (.cells arr 45)) (by simp)) (Gt.o w9.drew) Gu.o (by decide) (by have:=Gp.o;simp only [maxLen];omega) (by have:=Gp.o;omega) (by have:=Gh.o.size;have:=Gk.o.size;simp;omega) (by rfl) _ _ (by rfl) (by rfl) (by rfl) ?_;intro g2 c2 w10 hown2 hk2 hg2;have Gl:=qI hown2;have Gb:=qI hk2;have hb3:=hk2.heap (((zb.refl [] w9).drew.alloc (.cells arr 45)).heap Ga.o (by simp)) (fun hx=>yL (yd Gc.o (Option.mem_toList.1 hx)) (zH Ga.o) (by decide) rfl);have u0:=za (o:=1) hb3 rfl;have uf:=zh (o:=1) hb3;have Gm:=qI hb3;clear hb3 hown2 hk2 hg2
   try go_simp
   refine hK _ _ ?_
   clear hK K
   refine wpAny_take (i:=8) (v:=?_) rfl (by kernel_rfl) (by kernel_rfl) (by kernel_rfl) (fun _ _ _ h=>h) (Or.inl ⟨by rfl,?_⟩) ?_
   rotate_left
   ·intro w;go_simp;try with_reducible rfl
   refine wpAny_take (i:=9) (v:=?_) rfl (by kernel_rfl) (by kernel_rfl) (by kernel_rfl) (fun _ _ _ h=>h) (Or.inl ⟨by rfl,?_⟩) ?_
   rotate_left
   ·intro w;go_simp;try with_reducible rfl
   refine wpAny_ready (rs:=[10]) (by kernel_rfl) (by simp) (AllReady.cons (o:=_) rfl (fun K hK=>?_) AllReady.nil)
   go_simp
   refine hK _ _ ?_
   clear hK K
   refine wpAny_done (by kernel_rfl) ?_ _
   rotate_left
   refine vU (by rfl) _ rfl (l:=xq) Gq.o (by rfl) Gd.o ?_
   try go_simp
   refine hK _ _ ?_
   clear hK K
   refine wpAny_ready (rs:=[4]) (by kernel_rfl) (by simp) (AllReady.cons (o:=_) rfl (fun K hK=>?_) AllReady.nil)
   go_simp
   refine hK _ _ ?_
   clear hK K
   refine wpAny_ready (rs:=[7]) (by kernel_rfl) (by simp) (AllReady.cons (o:=_) rfl (fun K hK=>?_) AllReady.nil)
   refine qe QG (base:=W7.heap.size) (v:=.slice av k ac) (n:=k) (m:=1) (news:=xq.map bv) (xs:=(xM k).map bv) (zk Gc.o ((zb.refl [] w9).drew.alloc (.cells arr 45)) (by simp)) (Gt.o w9.drew) Gu.o (by decide) (by have:=Gp.o;simp only [maxLen];omega) (by have:=Gp.o;omega) (by have:=Gh.o.size;have:=Gk.o.size;simp;omega) (by rfl) _ _ (by rfl) (by rfl) (by rfl) ?_;intro g2 c2 w10 hown2 hk2 hg2;have Gl:=qI hown2;have Gb:=qI hk2;have hb3:=hk2.heap (((zb.refl [] w9).drew.alloc (.cells arr 45)).heap Ga.o (by simp)) (fun hx=>yL (yd Gc.o (Option.mem_toList.1 hx)) (zH Ga.o) (by decide) rfl);have u0:=za (o:=1) hb3 rfl;have uf:=zh (o:=1) hb3;have Gm:=qI hb3;clear hb3 hown2 hk2 hg2
   try go_simp
   refine hK _ _ ?_
   clear hK K
   refine wpAny_take (i:=8) (v:=?_) rfl (by kernel_rfl) (by kernel_rfl) (by kernel_rfl) (fun _ _ _ h=>h) (Or.inl ⟨by rfl,?_⟩) ?_
   rotate_left
   ·intro w;go_simp;try with_reducible rfl
   refine wpAny_take (i:=9) (v:=?_) rfl (by kernel_rfl) (by kernel_rfl) (by kernel_rfl) (fun _ _ _ h=>h) (Or.inl ⟨by rfl,?_⟩) ?_
   rotate_left
   ·intro w;go_simp;try with_reducible rfl
   refine wpAny_ready (rs:=[10]) (by kernel_rfl) (by simp) (AllReady.cons (o:=_) rfl (fun K hK=>?_) AllReady.nil)
   go_simp
   refine hK _ _ ?_
   clear hK K
   refine wpAny_done (by kernel_rfl) ?_ _
   all_goals
    go_wp2_with fail
    have ks:zb [mb + 1] w10 (w10.setCell ⟨mb + 1,1,none⟩ (.slice (some ⟨g2,0,none⟩) (k + 1) c2)):=(zb.refl _ w10).setCell (.inl (by simp)) _
    have hb5:=ze (i:=1) (v:=.slice (some ⟨g2,0,none⟩) (k + 1) c2) (d:=(sgL (.slice sa 1 sc) (.slice (some ⟨g2,0,none⟩) (k + 1) c2) yg (.map (some mb))).toArray) Gm.o rfl
    have ho5:(w10.setCell ⟨mb + 1,1,none⟩ (.slice (some ⟨g2,0,none⟩) (k + 1) c2)).ownsRow W7.heap.size 45 32 (.slice (some ⟨g2,0,none⟩) (k + 1) c2) (k + 1) ((xM (k + 1)).map bv):=by
     rw [Jq.o,List.map_append]
     exact zk Gl.o ks (fun g hg hx=>by
      simp at hx
      subst hx
      exact yL (yd Gl.o hg) (zH Gm.o) (by decide) rfl)
    have hk5:=((((Gh.o.then Gk.o).then ((zb.refl [] w9).drew.alloc (.cells arr 45))).trans Gb.o (fun i hi=>.inr (Gc.o.lt i (Option.mem_toList.1 hi)).1))).setCell (p:=⟨mb + 1,1,none⟩) (.inl (by simp)) (.slice (some ⟨g2,0,none⟩) (k + 1) c2)
    exact⟨⟨k + 1,some ⟨g2,0,none⟩,c2,by go_num,by have:=Gp.o;omega,hb5,ho5,hk5⟩,by have:=Gp.o;simp [intOf];omega⟩
  ·obtain rfl:k=2:=by omega
   obtain⟨ga,rfl⟩:=Kj Jc.o (by decide)
   have Ma:Hid (xM 2=kw 0 ++ kw 1):=qI (by rw [xY,xY];rfl)
   have Js:Hid (Slc wr 32 (.slice (some ⟨ga,0,none⟩) 2 ac) 2 ((xM 2).map bv)):=qI (Slc.of_row Jc.o)
   have Jt:Hid (zb [] w wr):=qI (Gs.o.trans Gh.o (by intro i hi;simp at hi;subst hi;exact .inr (by have:=Gw.o;omega)))
   have CR:Hid (Calls Tryz.prog 38 #[.slice (some ⟨ga,0,none⟩) 2 ac] wr fun e w'=>e = .returned (.tuple #[.agg (xB.map bv).toArray,.int .i64 0])∧zb [] wr w'):=qI (by
    have h1:=Js.o
    rw [Ma.o] at h1
    exact root_any (qX _ _ _) (qX _ _ _) h1 (Jf.o.kept0 Jt.o))
   have Je:Hid (xB.length=32):=qI (yP _ _)
   have Mb:Hid (yt wr w.heap.size (k8 kR)):=qI (Gh.o.heap Jx.o (by have:=Gw.o;simp;omega))
   have c1:=Jk.o.c1
   obtain⟨rq,Ju⟩:∃ rq,Hid (rq=xB):=⟨_,qI rfl⟩
   rw [← Ju.o] at CR Je
   go_upto_region 14 with first
    | (go_at_call 38;refine CR.o.mono ?_;rintro e w8 ⟨rfl,hk8⟩;have Jd:=qI hk8;have Mc:=qI (Mb.o.kept0 hk8);clear hk8)
    | (refine YO (by rfl) (.tmp 63) (.tmp 61) (by rfl) (g:=w.heap.size) (b:=8) (h:=1) (r:=kR) Mc.o Jg.o Je.o (by rfl) (by rfl) ?_;intro w9 h9 hk9;have Md:=qI h9;have Gk:=qI hk9;clear h9 hk9)
   have Ga:Hid (xS w9 (mb + 1) (.slice sa 1 sc) (.slice (some ⟨ga,0,none⟩) 2 ac) yg (.map (some mb))):=qI (Gk.o.heap (Jk.o.kept0 Jd.o) (by have:=Gw.o;simp;omega))
   clear c1
   go_wp2_with first
    | (refine zT (by rfl) (.tmp 8) (by rfl) (k:=k8 rq) Md.o Je.o (by rfl) ?_)
    | (refine Ks (by rfl) (.tmp 67) (.tmp 65) (by rfl) (g:=mb + 1) (k:=k8 rq) (k0:=yg) Ga.o (by rfl) Je.o (by rfl) (by rfl) ?_;intro w10 h10 hk10;have Gy:=qI h10;have Gb:=qI hk10;clear h10 hk10)
   go_ret2
   have hwk:zb [w.heap.size] wr w9:=(Jd.o.mono (by simp)).trans' Gk.o
   rw [← Ju.o]
   have hlw:=Gw.o
   have hs7:=Jo.o
   have hmb:=Jy.o
   refine⟨⟨mb + 1,sa,sc,some ⟨ga,0,none⟩,ac,mb,rfl,Gy.o,?_,?_,?_,by omega⟩,?_⟩
   ·have hb:∀ g,yq (.slice sa [113].length sc)=some g→g≠mb + 1∧g≠w.heap.size:=fun g hg=>by
     have h1:=Slc.lt Jm.o hg
     have h2:=Jw.o g hg
     have h3:=Gg.o.lt
     have h4:=Gv.o.size
     omega
    exact Slc.kept (Slc.kept (Slc.kept (Slc.kept0 Jm.o Jh.o) Gh.o (fun g hg hx=>(hb g hg).1 (by simpa using hx))) hwk (fun g hg hx=>(hb g hg).2 (by simpa using hx))) Gb.o (fun g hg hx=>(hb g hg).1 (by simpa using hx))
   ·have hb:∀ g,yq (.slice (some ⟨ga,0,none⟩) 2 ac)=some g→W7.heap.size≤g:=fun g hg=>(Jc.o.lt g (ye hg)).1
    exact (Js.o.kept hwk (fun g hg hx=>by have:=hb g hg;simp at hx;omega)).kept Gb.o (fun g hg hx=>by have:=hb g hg;simp at hx;omega)
   ·exact ((Jn.o.kept Gh.o (by simp)).kept hwk (by simp;omega)).kept Gb.o (by simp)
   ·exact (Jt.o.trans hwk (by intro i hi;simp at hi;subst hi;exact .inr (Nat.le_refl _))).trans Gb.o (by intro i hi;simp at hi;subst hi;exact .inr (by omega))
def qR (id:ByteArray) (k:zP):List Value:=.string id :: kT k
theorem xO {id:ByteArray}{k:zP}(h:k.root.length=32):(qR id k).length=35:=by simp [qR,xe h]
theorem rowL_one (id:ByteArray) (k:zP):∀ v ∈ qR id k,v.oneCell'=true:=by
 intro v hv
 rcases List.mem_cons.1 hv with rfl | hv
 ·rfl
 ·exact Kc k v hv
def jQ (w:World) (g:Nat) (id:ByteArray) (k:zP):Prop:=w.heap[g]? = some (.cells (qR id k).toArray 49 (0,0))
theorem jQ.kept0 {w w':World}{g:Nat}{id:ByteArray}{k:zP}(h:jQ w g id k) (hk:zb [] w w'):jQ w' g id k:=hk.heap h (by simp)
theorem jQ.c0 {w:World}{g:Nat}{id:ByteArray}{k:zP}(h:jQ w g id k):w.cell? ⟨g,0,none⟩=some (.string id):=za h rfl
theorem jQ.there {w:World}{g:Nat}{id:ByteArray}{k:zP}(h:jQ w g id k) (hl:k.root.length=32):w.there g 0 35:=fun j hj=>by
 rw [Nat.zero_add]
 have hj':j < (qR id k).length:=by rw [xO hl];exact hj
 exact⟨by rw [za (v:=(qR id k)[j]) h (by simp [hj'])];rfl,zh h⟩
theorem jQ.put {w:World}{g:Nat}{id id':ByteArray}{k k':zP}(h:jQ w g id k) (hl:k.root.length=32) (hl':k'.root.length=32):jQ (w.setCells g 0 (qR id' k')) g id' k':=by
 obtain⟨cur,h1,h2,h3⟩:=xx g (qR id' k') 0 w _ h
 have hz:(qR id k).toArray.size=35:=by simp [xO hl]
 have e:cur=(qR id' k').toArray:=by
  apply Array.ext
  ·rw [h2,hz];simp [xO hl']
  ·intro i hi1 hi2
   have hi3:i < 35:=by rw [h2,hz] at hi1;exact hi1
   have h4:=h3 i (by rw [hz];exact hi3)
   rw [if_pos (by rw [xO hl'];omega),Array.getElem?_eq_getElem hi1,Nat.sub_zero,List.getElem?_eq_getElem (by rw [xO hl'];exact hi3)] at h4
   rw [Option.some.inj h4]
   simp
 unfold jQ
 rw [h1,e]
theorem info35:(Tryz.prog.info? 49).map (·.size)=some 35:=by kernel_rfl
theorem JR {ops:Array Oper}{rest:List Oper}{op:Oper}{a:Act}{w:World}{Q:Exit→Act→World→Prop}(hgd:op.guard=none) (x:Operand) (ho:op.op = .load 49 x) {g of:Nat}{id:ByteArray}{k:zP}(h0:w.rangeAt g of (qR id k)) (hl:k.root.length=32)
  (hx:a.eval x = .pointer (some ⟨g,of,none⟩)) (h:wpList Tryz.prog ops Q rest (a.put op.dst (.agg (qR id k).toArray)) w):wpList Tryz.prog ops Q (op :: rest) a w:=
 wpList_load_mid hgd 49 x ho g of hx (qR id k) _ h0 underlying49 rfl (by rw [xO hl];exact info35) h
theorem KH {ops:Array Oper}{rest:List Oper}{op:Oper}{a:Act}{w:World}{Q:Exit→Act→World→Prop}(hgd:op.guard=none) (x y:Operand) (ho:op.op = .store 49 x y) {g:Nat}{id id0:ByteArray}{k k0:zP}(h0:jQ w g id0 k0) (hl0:k0.root.length=32) (hl:k.root.length=32)
  (hx:a.eval x = .pointer (some ⟨g,0,none⟩)) (hy:a.eval y = .agg (qR id k).toArray) (h:∀ w',jQ w' g id k→zb [g] w w'→wpList Tryz.prog ops Q rest (a.put op.dst undef) w'):wpList Tryz.prog ops Q (op :: rest) a w:=by
 have hsz:(qR id k).toArray.size=35:=by simp [xO hl]
 refine wpList_store_mid hgd 49 x y ho g 0 (qR id k).toArray hx hy (by rw [hsz];exact h0.there hl0) (by rw [hsz];exact info35) (all_oneCell_toArray (rowL_one id k)) (h _ ?_ (z7 _ _ _ _))
 exact h0.put hl0 hl
theorem ZX {ops:Array Oper}{rest:List Oper}{op:Oper}{a:Act}{w:World}{Q:Exit→Act→World→Prop}(hw:Region.wanted op (yielded ops a.tmps)=true) (x:Operand) (ho:op.op = .load 47 x) {g of:Nat}{k:zP}(h0:w.rangeAt g of (kT k)) (hl:k.root.length=32)
  (hx:a.eval x = .pointer (some ⟨g,of,none⟩)) (h:wpList Tryz.prog ops Q rest (a.put op.dst (.agg (yi k))) w):wpList Tryz.prog ops Q (op :: rest) a w:=
 BigFrame.wpList_want hw fun _ hK=>wp_load_mid 47 x ho g of hx (kT k) _ h0 underlying47 rfl (by rw [xe hl];exact Y0) (hK _ _ h)
theorem QT {k:zP}(h:zK k=true):(yu k).size=64:=by
 unfold yu
 rw [if_pos h,qW,yn]
structure xT where
 id:ByteArray
 key:zP
def xT.enc (r:xT):List Value:=qR r.id r.key
def xT.fine (r:xT):Prop:=r.key.root.length=32∧kx r.key.bits
def vY (l:List xT):List Value:=l.flatMap xT.enc
structure qo (w:World) (v:Value) (l:List xT):Prop where
 slc:Slc w 35 v l.length (vY l)
 fine:∀ r,r ∈ l→r.fine
 few:l.length≤1000000
theorem qo.kept0 {w w':World}{v:Value}{l:List xT}(h:qo w v l) (k:zb [] w w'):qo w' v l:=⟨Slc.kept0 h.slc k,h.fine,h.few⟩
theorem zaa:∀ (l:List xT) (_:∀ r,r ∈ l→r.fine) (j:Nat) (hj:j < l.length) (i:Nat) (_:i < 35),(vY l)[j * 35 + i]? = (l[j].enc)[i]?
 | r :: t,hf,0,_,i,hi=>by
  have hl:r.enc.length=35:=xO (hf r (by simp)).1
  show (r.enc ++ vY t)[0 * 35 + i]? = _
  rw [List.getElem?_append_left (by omega),Nat.zero_mul,Nat.zero_add];rfl
 | r :: t,hf,j + 1,hj,i,hi=>by
  have hl:r.enc.length=35:=xO (hf r (by simp)).1
  show (r.enc ++ vY t)[(j + 1) * 35 + i]? = _
  rw [List.getElem?_append_right (by omega),show (j + 1) * 35 + i - r.enc.length=j * 35 + i by omega]
  exact zaa t (fun x hx=>hf x (List.mem_cons_of_mem _ hx)) j (by simpa using hj) i hi
theorem qo.cells {w:World}{a:Option Addr}{c:Nat}{l:List xT}(h:qo w (.slice a l.length c) l) (hn:0 < l.length):∃ g o,a=some ⟨g,o,none⟩∧g < w.heap.size∧∀ (j:Nat) (hj:j < l.length),w.rangeAt g (o + j * 35) l[j].enc:=by
 rcases h.slc.2 with ⟨-,h0⟩ | ⟨h0,-⟩ | ⟨g,o,cap,h1,h2,-,hr⟩
 ·omega
 ·omega
 ·simp only [Value.slice.injEq] at h1
  refine⟨g,o,h1.1,hr.lt,fun j hj i u hu=>?_⟩
  have hi:i < 35:=by have:=(List.getElem?_eq_some_iff.1 hu).1;rw [show l[j].enc.length=35 from xO (h.fine _ (List.getElem_mem _)).1] at this;exact this
  rw [Nat.add_assoc]
  exact hr.cells (j * 35 + i) u (by rw [zaa l h.fine j hj i hi];exact hu)
set_option maxRecDepth 100000 in
theorem findAny_any {w:World}(r:xT) (hr:r.fine) {id:ByteArray}(b:Nat) (h:w.cell? ⟨b,0,none⟩=some (.string id)) :
  Calls Tryz.prog 100 #[.agg r.enc.toArray,.pointer (some ⟨b,0,none⟩)] w fun e w'=>e = .returned (.bool (decide (r.id=id)))∧zb [] w w':=by
 obtain⟨W0,Ge⟩:∃ W0,Hid (W0=w.alloc (.cells r.enc.toArray 49)):=⟨_,qI rfl⟩
 have Gi:Hid (zb [] w W0):=qI (by rw [Ge.o];exact (zb.refl _ w).alloc _)
 have HA:Hid (jQ W0 w.heap.size r.id r.key):=qI (by rw [Ge.o];exact zd rfl)
 have c0:=HA.o.c0
 have c1:=Gi.o.cell h (by simp)
 clear h
 by_cases hid:r.id=id
 ·obtain⟨f1,f2⟩:=k9 hid
  have HD:Hid (decide (r.id=id)=true):=qI (decide_eq_true hid)
  clear hid
  go_enter func100,ntmps100
  go_upto_region 1 with fail
  rw [← Ge.o]
  go_wp2_with fail
  go_ret
  exact⟨by rw [HD.o];rfl,Gi.o⟩
 ·obtain⟨f1,f2⟩:=kF hid
  have HD:Hid (decide (r.id=id)=false):=qI (decide_eq_false hid)
  clear hid
  go_enter func100,ntmps100
  go_upto_region 1 with fail
  rw [← Ge.o]
  go_wp2_with fail
  go_ret
  exact⟨by rw [HD.o];rfl,Gi.o⟩
theorem aggRow (w:World):(isAgg (Tryz.shIndexRow_ren.t 23)).run Tryz.prog w = .ok true w:=isAgg49 w
theorem sizeRow (w:World):(Go.sizeOf (Tryz.shIndexRow_ren.t 23)).run Tryz.prog w = .ok 35 w:=sizeOf49 w
theorem enterFind:∀ (args:Array Value) (w:World),(callFunc 100 args).run Tryz.prog w = .ok (.enter 100 args) w:=enters_of func100 (by kernel_rfl) rfl
instance:Inhabited {r:xT // r.fine}:=⟨⟨⟨⟨#[]⟩,yg⟩,⟨by rfl,by constructor <;> decide⟩⟩⟩
theorem idx_find {α:Type} [Inhabited α] (p:α→Bool) (d:α):∀ (l:List α) (i:Nat),(Lib.idxByFrom (fun _ y=>p y) d l i = -1∧l.find? p=none)∨∃ (j:Nat) (hj:j < l.length),Lib.idxByFrom (fun _ y=>p y) d l i=((i + j:Nat):Int)∧l.find? p=some l[j]
 | [],_=>.inl ⟨rfl,rfl⟩
 | y :: r,i=>by
  cases h:p y with
  | true=>exact .inr ⟨0,by simp,by simp [Lib.idxByFrom,h],by simp [h]⟩
  | false=>
   rcases idx_find p d r (i + 1) with ⟨e,ha⟩ | ⟨k,hk,e,ha⟩
   ·exact .inl ⟨by simp [Lib.idxByFrom,h,e],by simp [h,ha]⟩
   ·refine .inr ⟨k + 1,by simpa using hk,?_,by simp [h,ha]⟩
    simp only [Lib.idxByFrom,h]
    rw [show (if false=true then (i:Int) else Lib.idxByFrom (fun _ y=>p y) d r (i + 1))=Lib.idxByFrom (fun _ y=>p y) d r (i + 1) from rfl,e]
    congr 1;omega
def jV (l:List xT) (id:ByteArray):Option xT:=l.find? (fun r=>decide (r.id=id))
theorem nilRow_any (w:World) (a:Option Addr) (c b:Nat):Calls Tryz.prog 99 #[.slice a 0 c,.func (.func 100) #[] #[.pointer (some ⟨b,0,none⟩)]] w fun e w'=>e = .returned (.int .i64 (-1))∧zb [] w w':=by
 go_enter func99,ntmps99
 go_wp2_with fail
 go_loopw [5,8] (fun _ i wr=>i = .int .i64 0∧zb [] w wr) (fun _ _ _=>0)
 case atStart=>exact⟨rfl,zb.refl _ _⟩
 case round=>
  obtain⟨rfl,hk⟩:=hrel
  have HK:=qI hk
  clear hk
  go_wp2_with fail
  go_ret
  exact⟨rfl,HK.o⟩
theorem JP {w:World}{a:Option Addr}{c:Nat}{l:List xT}(h:qo w (.slice a l.length c) l) {id:ByteArray}(b:Nat) (hb:w.cell? ⟨b,0,none⟩=some (.string id)) :
  Calls Tryz.prog 99 #[.slice a l.length c,.func (.func 100) #[] #[.pointer (some ⟨b,0,none⟩)]] w fun e w'=>((e = .returned (.int .i64 (-1))∧jV l id=none)∨∃ (j:Nat) (hj:j < l.length),e = .returned (.int .i64 j)∧jV l id=some l[j])∧zb [] w w':=by
 rcases Nat.eq_zero_or_pos l.length with h0 | h0
 ·have hl0:=List.eq_nil_of_length_eq_zero h0
  subst hl0
  exact (nilRow_any w a c b).mono (fun e w' h=>⟨.inl ⟨h.1,rfl⟩,h.2⟩)
 ·obtain⟨g,o,rfl,hg,hcell⟩:=h.cells h0
  obtain⟨zs,HZ⟩:∃ zs:List {r:xT // r.fine},Hid (zs=l.attach.map fun x=>⟨x.1,h.fine x.1 x.2⟩):=⟨_,qI rfl⟩
  have hlen:zs.length=l.length:=by rw [HZ.o];simp
  have hmap:zs.map (fun x=>x.1)=l:=by rw [HZ.o,List.map_map];exact List.attach_map_subtype_val l
  have hget:∀ (j:Nat) (hj:j < l.length),(zs[j]!).1=l[j]:=fun j hj=>by
   rw [getElem!_pos zs j (by omega)]
   simp [HZ.o]
  have hfew:=h.few
  refine (AnyQ.slices_IndexFunc Tryz.shIndexRow 35 aggRow sizeRow (fun x:{r:xT // r.fine}=>x.1.enc) (fun x=>xO x.2.1) (fun x=>decide (x.1.id=id)) 100 #[.pointer (some ⟨b,0,none⟩)] enterFind g o l.length c zs w (fun W x hbl=>?_) (by omega) (by omega) hg (fun j hj i u hu=>?_)).mono ?_
  ·refine (findAny_any x.1 x.2 b ((zb.of_below hbl).cell hb (by simp))).mono ?_
   rintro e w' ⟨rfl,hk⟩
   exact⟨rfl,((zb.of_below hbl).then hk).below (Nat.le_refl _) (by simp)⟩
  ·rw [hget j (by omega)] at hu
   exact hcell j (by omega) i u hu
  ·rintro e w' ⟨rfl,hbl⟩
   refine⟨?_,zb.of_below hbl⟩
   rw [List.take_of_length_le (by omega)]
   have hfm:jV l id=(zs.find? (fun x=>decide (x.1.id=id))).map (fun x=>x.1):=by
    unfold jV
    conv=>lhs;rw [← hmap]
    rw [List.find?_map]
    rfl
   rcases idx_find (fun x:{r:xT // r.fine}=>decide (x.1.id=id)) default zs 0 with ⟨e1,e2⟩ | ⟨j,hj,e1,e2⟩
   ·refine .inl ⟨?_,by rw [hfm,e2];rfl⟩
    unfold Lib.idxBy;rw [e1]
   ·refine .inr ⟨j,by omega,?_,?_⟩
    ·unfold Lib.idxBy;rw [e1,Nat.zero_add]
    ·rw [hfm,e2,← hget j (by omega),getElem!_pos zs j hj];rfl
def foundV (o:Option xT):Value:=match o with
 | none=>.tuple #[.agg (yi yg),.bool false]
 | some r=>.tuple #[.agg (yi r.key),.bool true]
theorem find_any {w:World}{a:Option Addr}{c:Nat}{l:List xT}(h:qo w (.slice a l.length c) l) (id:ByteArray) :
  Calls Tryz.prog 61 #[.slice a l.length c,.string id] w fun e w'=>e = .returned (foundV (jV l id))∧zb [] w w':=by
 obtain⟨W0,Ge⟩:∃ W0,Hid (W0=(w.alloc (.cells #[.string id] 9)).alloc (.cells (yi yg) 47)):=⟨_,qI rfl⟩
 have Gi:Hid (zb [] w W0):=qI (by rw [Ge.o];exact ((zb.refl _ w).alloc _).alloc _)
 have HC:Hid (W0.cell? ⟨w.heap.size,0,none⟩=some (.string id)):=qI (by rw [Ge.o];exact ((zb.refl [] _).alloc _).cell (za (zd rfl) rfl) (by simp))
 have Gn:Hid (yt W0 (w.heap.size + 1) yg):=qI (by rw [Ge.o];exact zd (by simp))
 have HH:=qI (h.kept0 Gi.o)
 have CI:=qI (JP HH.o _ HC.o)
 have Gx:Hid (yg.root.length=32):=qI (by rfl)
 clear h
 go_enter func61,ntmps61
 go_upto_region 1 with fail
 change Code.wp _ _ _ _ ((w.alloc (.cells #[.string id] 9)).alloc (.cells (yi yg) 47))
 rw [← Ge.o]
 go_upto_region 2 with (go_at_call 99;refine CI.o.mono ?_;rintro e w1 ⟨hor,hk1⟩;have Jl:=qI hor;have Gz:=qI hk1;clear hor hk1;rcases Jl.o with ⟨rfl,hf⟩ | ⟨j,hj,rfl,hf⟩)
 ·have HF:=qI hf
  have Gf:=qI (Gn.o.kept0 Gz.o)
  clear hf Jl CI
  go_wp2_with (refine yS (by rfl) (.tmp 4) (.tmp 12) (by rfl) (g:=w.heap.size + 1) (k:=yg) (k0:=yg) Gf.o Gx.o Gx.o (by rfl) (by rfl) ?_;intro w4 h4 hk4;have Gg:=qI h4;have Gj:=qI hk4;clear h4 hk4;simp only [Act.put])
  have hres:=Gg.o.var Gx.o
  refine bodyPost_ret (v:=.tuple #[.agg (yi yg),.bool false]) (by simp only [results,results61];simp [hres,Sem.run_bind,asAddr,Act.put]) rfl ?_
  exact⟨by rw [HF.o];rfl,(Gi.o.then Gz.o).trans Gj.o (by intro i hi;simp at hi;subst hi;exact .inr (by simp))⟩
 ·have HF:=qI hf
  have Gf:=qI (Gn.o.kept0 Gz.o)
  obtain⟨g,o,rfl,-,hcell⟩:=HH.o.cells (by omega)
  have Gr:Hid (l[j].key.root.length=32):=qI (HH.o.fine _ (List.getElem_mem _)).1
  have H1:Hid (w1.rangeAt g (o + j * 35 + 1) (kT l[j].key)):=qI (fun i v hv=>by
   have h2:=Gz.o.cell (hcell j hj (i + 1) v hv) (by simp)
   rw [show o + j * 35 + (i + 1)=o + j * 35 + 1 + i by omega] at h2
   exact h2)
  have hjI:(j:Int) < l.length:=by omega
  have hmI:(l.length:Int)≤1000000:=by have:=HH.o.few;omega
  clear hf Jl CI hcell
  generalize l[j]=r at HF Gr H1
  have Me:=qI HF.o
  clear HH HF hj
  generalize l.length=m at hjI hmI ⊢
  go_wp2_with first
   | (refine ZX (by rfl) (.tmp 16) (by rfl) (g:=g) (of:=o + j * 35 + 1) H1.o Gr.o (by rfl) ?_)
   | (refine yS (by rfl) (.tmp 4) (.tmp 17) (by rfl) (g:=w.heap.size + 1) (k:=r.key) (k0:=yg) Gf.o Gx.o Gr.o (by rfl) (by rfl) ?_;intro w4 h4 hk4;have Gg:=qI h4;have Gj:=qI hk4;clear h4 hk4;simp only [Act.put])
  have hres:=Gg.o.var Gr.o
  refine bodyPost_ret (v:=.tuple #[.agg (yi r.key),.bool true]) (by simp only [results,results61];simp [hres,Sem.run_bind,asAddr,Act.put]) rfl ?_
  exact⟨by rw [Me.o];rfl,(Gi.o.then Gz.o).trans Gj.o (by intro i hi;simp at hi;subst hi;exact .inr (by simp))⟩
theorem Kt {w:World}{g:Nat}{sa la mv:Value}{k:zP}(h:xS w g sa la k mv) (hr:k.root.length=32) :
  Calls Tryz.prog 19 #[.pointer (some ⟨g,0,none⟩)] w fun e w'=>e = .returned (.agg (yi k))∧zb [] w w':=by
 obtain⟨W0,Ge⟩:∃ W0,Hid (W0=w.alloc (.cells (yi yg) 47)):=⟨_,qI rfl⟩
 have Gi:Hid (zb [] w W0):=qI (by rw [Ge.o];exact (zb.refl _ w).alloc _)
 have Gn:Hid (yt W0 w.heap.size yg):=qI (by rw [Ge.o];exact zd rfl)
 have HK:=qI (h.kept0 Gi.o).key
 have Gr:=qI hr
 have Gx:Hid (yg.root.length=32):=qI (by rfl)
 clear h hr
 go_enter func19,ntmps19
 go_upto_region 1 with fail
 change Code.wp _ _ _ _ (w.alloc (.cells (yi yg) 47))
 rw [← Ge.o]
 go_wp2_with first
  | (refine ZX (by rfl) (.tmp 8) (by rfl) (g:=g) (of:=2) HK.o Gr.o (by rfl) ?_)
  | (refine yS (by rfl) (.tmp 2) (.tmp 9) (by rfl) (g:=w.heap.size) (k:=k) (k0:=yg) Gn.o Gx.o Gr.o (by rfl) (by rfl) ?_;intro w4 h4 hk4;have Gg:=qI h4;have Gj:=qI hk4;clear h4 hk4;simp only [Act.put])
 have hres:=Gg.o.var Gr.o
 refine bodyPost_ret (v:=.agg (yi k)) (by simp only [results,results19];simp [hres,Sem.run_bind,asAddr,Act.put]) rfl ?_
 exact⟨rfl,Gi.o.trans Gj.o (by intro i hi;simp at hi;subst hi;exact .inr (Nat.le_refl _))⟩
theorem QV (w:World) (g:Nat) (am:Option Addr) (mn cm:Nat) (hm:mn≤1048576) :
  Calls Tryz.prog 75 #[.pointer (some ⟨g,0,none⟩),.slice am mn cm] w fun e w'=>e = .returned (.int .i64 0)∧w=w':=by
 have hmI:(mn:Int)≤1048576:=by omega
 have hd:decide ((1048576:Int) < (mn:Int))=false:=decide_eq_false (by omega)
 clear hm
 go_enter func75,ntmps75
 go_wp2_with fail
 go_ret
 exact⟨rfl,rfl⟩
theorem used_any {w:World}{g mb n:Nat}{sa la:Value}{k:zP}{M:Lit→Option Value}(h:xS w g sa la k (.map (some mb))) (hr:k.root.length=32) (hm:qq Tryz.prog w 3 mb n M) (i:Nat) (hi:i≤1000) (hs:∀ v,M (.int .i64 i)=some v→∃ s,v = .string s) :
  Calls Tryz.prog 76 #[.pointer (some ⟨g,0,none⟩),.int .i64 i] w fun e w'=>e = .returned (.bool (M (.int .i64 i)).isSome)∧w=w':=by
 have hw:(Lit.int .i64 i).wf=true:=by
  have h1:IntKind.i64.min = -9223372036854775808:=rfl
  have h2:IntKind.i64.max=9223372036854775807:=rfl
  simp only [Lit.wf,h1,h2,Bool.and_eq_true,decide_eq_true_eq]
  omega
 have hl:=(hm.at.lookup keyInt underlying72 (z:=.string ⟨#[]⟩) (zeroValue9 w) (Maps.keyOf_int_mk underlying3 hw)).1
 have cm:=h.cm hr
 clear h hm hw hr
 generalize M (.int .i64 i)=o at hl hs ⊢
 generalize o.isSome=b at hl ⊢
 generalize o.getD (.string ⟨#[]⟩)=v at hl
 go_enter func76,ntmps76
 go_wp2_with fail
 go_ret
 exact⟨rfl,rfl⟩
end Go.Proofs.YtibnfbglanpoiaaGreatDoor

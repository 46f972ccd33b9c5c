/- Parts of one proof, merged: XBL. -/
import Derived.Test.YtjccecajigmfkaaGreatDoorSgAA
import Derived.Test.YtjccecajigmfkaaGreatDoorSgAC
set_option linter.all false
set_option maxHeartbeats 12800000
set_option maxRecDepth 10000
namespace Go.Proofs.YtjccecajigmfkaaGreatDoor
open Go.Proofs.Tryz
open Go.RowKit
open Go.Maps (Keyed)
attribute [local go_sem] Oper.semAt_some
variable {k:yX}{la mv sa:Value}
def sgL (sa la:Value)(k:yX)(mv:Value):List Value:=sa::la::(bl k++[mv])
def xZ (w:World)(g:Nat)(sa la:Value)(k:yX)(mv:Value):Prop:=w.heap[g]? = some (.cells (sgL sa la k mv).toArray 80 (0,0))
theorem xZ.k0 {w a:World}{g:Nat}(h:xZ w g sa la k mv)(b:zb [] w a):xZ a g sa la k mv:=b.heap h Wz
theorem xZ.key {w:World}{g:Nat}(h:xZ w g sa la k mv):w.rangeAt g 2 (bl k):=fun j v hv=>by
 refine za h ?_;have a:=(List.getElem?_eq_some_iff.1 hv).1;rw [sgL,List.getElem?_toArray,show 2+j=j+1+1 by omega,List.getElem?_cons_succ,List.getElem?_cons_succ,List.getElem?_append_left a];exact hv
theorem xZ.c0 {w:World}{g:Nat}(h:xZ w g sa la k mv):w.cell? ⟨g,0,none⟩=some sa:=za h rfl
theorem xZ.c1 {w:World}{g:Nat}(h:xZ w g sa la k mv):w.cell? ⟨g,1,none⟩=some la:=za h rfl
theorem xZ.c2 {w:World}{g:Nat}(h:xZ w g sa la k mv):w.cell? ⟨g,2,none⟩=some (.int .i64 k.bits):=za h rfl
theorem xZ.cm {w:World}{g:Nat}(h:xZ w g sa la k mv)(a:k.root.length=32):w.cell? ⟨g,36,none⟩=some mv:=by
 refine za h ?_;have b:=xS a;rw [sgL,List.getElem?_toArray,List.getElem?_cons_succ,List.getElem?_cons_succ,List.getElem?_append_right Ws,b];rfl
theorem sgL_len (h:k.root.length=32):(sgL sa la k mv).length=37:=by
 simp [sgL,xS h]
theorem sgL_get (h:k.root.length=32)(i:Nat)(e:2≤i):(sgL sa la k mv)[i]? = if i<36 then (bl k)[i-2]? else if i=36 then some mv else none:=by
 have d:=xS h;obtain⟨j,rfl⟩:∃ j,i=j+2:=⟨i - 2,Ws⟩;show (bl k++[mv])[j]? = _;rw [Nat.add_sub_cancel];by_cases b:j+2<36;·rw [if_pos b,List.getElem?_append_left Ws]
 ·rw [if_neg b,List.getElem?_append_right Ws,d];by_cases a:j+2=36;·rw [if_pos a,show j-34=0 by omega];rfl
  ·rw [if_neg a,List.getElem?_eq_none (by simp;omega)]
theorem xZ.setKey {w:World}{g:Nat}{d:yX}(h:xZ w g sa la k mv)(m:k.root.length=32)(a:d.root.length=32):xZ (w.setCells g 2 (bl d)) g sa la d mv:=by
 obtain⟨j,q,h2,h3⟩:=qC g (bl d) 2 w _ h;have l:(sgL sa la k mv).toArray.size=37:=by simp [sgL_len m]
 have n:=xS a;have e:j=(sgL sa la d mv).toArray:=by
  apply Array.ext';apply List.ext_getElem?;intro i;rw [List.toList_toArray,Array.getElem?_toList];by_cases p:i<37
  ·rw [h3 i (by rw [l];exact p)];by_cases f:2≤i
   ·rw [sgL_get a i f];by_cases b:i<36;·rw [if_pos Ws,if_pos b]
    ·rw [if_neg Ws,if_neg b,List.getElem?_toArray,sgL_get m i f,if_neg b]
   ·rw [if_neg Ws];obtain rfl | rfl:i=0∨i=1:=Ws
    ·rfl
    ·rfl
  ·rw [Array.getElem?_eq_none (by rw [h2,l];omega),List.getElem?_eq_none (by rw [sgL_len a];omega)]
 unfold xZ;rw [q,e]
theorem zaI {ops:Array Oper}{rest:List Oper}{op:Oper}{a:Act}{w:World}{Q:Exit→Act→World→Prop}(e:op.guard=none)(x y:Operand)(n:op.op = .store 51 x y){g:Nat}{k0:yX}(i:xZ w g sa la k0 mv)(d:k0.root.length=32)(l:k.root.length=32)(m:a.eval x = .pointer (some ⟨g,2,none⟩))(p:a.eval y = .agg (yU k))(h:∀ w',xZ w' g sa la k mv→zb [g] w w'→wpList prog ops Q rest (a.put op.dst undef) w'):wpList prog ops Q (op::rest) a w:=by
 have b:(yU k).size=34:=by simp [yU,xS l]
 refine wpList_store_mid e 51 x y n g 2 (yU k) m p (fun j q=>?_) (by rw [b];exact K6) (all_oneCell_toArray (keyL_one k)) (h _ ?_ (yN _ _ _ _))
 ·rw [b] at q;have f:2+j<(sgL sa la k0 mv).length:=by rw [sgL_len d];omega
  exact⟨by rw [za (v:=(sgL sa la k0 mv)[2+j]) i (by simp [f])];rfl,zh i⟩
 ·exact i.setKey d l
def k8 (root:List UInt8):yX:=⟨8,1,root⟩
def leafQ (i:Nat):List UInt8:=zad [113] i 8
def leavesQ (k:Nat):List UInt8:=((List.range k).map leafQ).flatten
def rootQ:List UInt8:=j8 (leafQ 0) (leafQ 1)
theorem keyInt:Keyed prog 3:=Maps.int_keyed underlying3
theorem run_slice32 (W:World)(cs:List Value)(i:cs.length=32):(Instr.buildSlice 78 1 #[(0,.agg cs.toArray)]).run prog W = .ok (.slice (some ⟨W.heap.size,0,none⟩) 1 1) (W.alloc (.cells cs.toArray 49)):=by
 obtain⟨b,d⟩:∃ b,Tryz.prog.info? 49=some b:=by
  cases h:Tryz.prog.info? 49 with
  | none=>have e:=kG;rw [h] at e;cases e
  | some b=>exact⟨b,rfl⟩
 have a:b.size=32:=by have e:=kG;rw [d] at e;simpa using e
 obtain⟨z,f⟩:∃ z,b.zero=some z:=by have f:=JW;rw [d] at f;exact Option.isSome_iff_exists.1 f
 exact run_buildSlice W _ _ 1 #[(0,.agg cs.toArray)] cs.toArray b z underlying78 d f (by rw [a];decide) (by rw [a];decide) (by
  have j:=za7 (n:=32) i Wo z;rw [a];exact j)
section
variable {ops : Array Oper} {o : Oper} {a : Act} {w : World} {K : Act → World → Prop} {Q : Exit → Act → World → Prop} {E : Prop}
theorem zah (k:o.guard=none)(x:Operand)(f:o.op = .load 49 x){g of:Nat}{l:List UInt8}{b:Array Value}(i:w.rangeAt g of (l.map bv))(h:l.length=32)(d:a.eval x = .pointer (some ⟨g,of,none⟩))(j:b=(l.map bv).toArray)(e:K (a.put o.dst (.agg b)) w) : if Region.wanted o (yielded ops a.tmps)=true then Oper.wp prog o a w K Q else E:=by
 subst j;rw [if_pos (by simp [Region.wanted,k])];exact wp_load_mid 49 x f g of d (l.map bv) _ i underlying49 rfl (by rw [List.length_map,h];exact kG) e
theorem ZP (k:o.guard=none)(x:Operand)(i:o.op = .buildSlice 78 1 #[(0,x)]){l:List UInt8}{b:Array Value}(j:l.length=32)(e:a.eval x = .agg b)(h:b=(l.map bv).toArray)(f:K (a.put o.dst (.slice (some ⟨w.heap.size,0,none⟩) 1 1)) (w.alloc (.cells b 49))) : if Region.wanted o (yielded ops a.tmps)=true then Oper.wp prog o a w K Q else E:=by
 rw [if_pos (by simp [Region.wanted,k])];unfold Oper.wp execOp;simp only [i,Sem.run_bind,List.map_toArray,List.map_cons,List.map_nil,e];have d:=run_slice32 w (l.map bv) (by simp [j]);rw [← h] at d;rw [d];exact f
end
end Go.Proofs.YtjccecajigmfkaaGreatDoor

/- Parts of one proof, merged: XBL. -/
import Derived.Test.YtjccecajigmfkaaGreatDoorSdY
import Derived.Test.YtjccecajigmfkaaGreatDoorSdAC
set_option linter.all false
set_option maxHeartbeats 12800000
set_option maxRecDepth 10000
namespace Go.Proofs.YtjccecajigmfkaaGreatDoor
open Go.Proofs.Tryz
open Go.RowKit
open Go.Maps (Keyed)
attribute [local go_sem] Oper.semAt_some
variable {k:yY}{la mv sa:Value}
def sgL (sa la:Value)(k:yY)(mv:Value):List Value:=sa::la::(bf k++[mv])
def qc (w:World)(g:Nat)(sa la:Value)(k:yY)(mv:Value):Prop:=w.heap[g]? = some (.cells (sgL sa la k mv).toArray 80 (0,0))
theorem qc.k0 {w a:World}{g:Nat}(h:qc w g sa la k mv)(b:zb [] w a):qc a g sa la k mv:=b.heap h Wz
theorem qc.key {w:World}{g:Nat}(h:qc w g sa la k mv):w.rangeAt g 2 (bf k):=fun j v hv=>by
 refine za h ?_;have a:=(X6.1 hv).1;rw [sgL,uB,show 2+j=j+1+1 by omega,uK,uK,Xz a];exact hv
theorem qc.c0 {w:World}{g:Nat}(h:qc w g sa la k mv):w.cell? ⟨g,0,none⟩=some sa:=za h rfl
theorem qc.c1 {w:World}{g:Nat}(h:qc w g sa la k mv):w.cell? ⟨g,1,none⟩=some la:=za h rfl
theorem qc.c2 {w:World}{g:Nat}(h:qc w g sa la k mv):w.cell? ⟨g,2,none⟩=some (.int .i64 k.bits):=za h rfl
theorem qc.cm {w:World}{g:Nat}(h:qc w g sa la k mv)(a:k.root.length=32):w.cell? ⟨g,36,none⟩=some mv:=by
 refine za h ?_;have b:=xW a;rw [sgL,uB,uK,uK,Xx Ws,b];rfl
theorem sgL_len (h:k.root.length=32):(sgL sa la k mv).length=37:=by
 simp [sgL,xW h]
theorem sgL_get (h:k.root.length=32)(i:Nat)(e:2≤i):(sgL sa la k mv)[i]? = if i<36 then (bf k)[i-2]? else if i=36 then some mv else none:=by
 have d:=xW h;obtain⟨j,rfl⟩:∃ j,i=j+2:=⟨i - 2,Ws⟩;show (bf k++[mv])[j]? = _;rw [Nat.add_sub_cancel];by_cases b:j+2<36;·rw [XK b,Xz Ws]
 ·rw [XJ b,Xx Ws,d];by_cases a:j+2=36;·rw [XK a,show j-34=0 by omega];rfl
  ·rw [XJ a,uQ (by simp;omega)]
theorem qc.setKey {w:World}{g:Nat}{f:yY}(h:qc w g sa la k mv)(l:k.root.length=32)(b:f.root.length=32):qc (w.setCells g 2 (bf f)) g sa la f mv:=by
 obtain⟨j,p,h2,h3⟩:=qN g (bf f) 2 w _ h;have m:(sgL sa la k mv).toArray.size=37:=by simp [sgL_len l]
 have n:=xW b;have e:j=(sgL sa la f mv).toArray:=by
  apply Array.ext';apply VL;intro i;rw [List.toList_toArray,uP];by_cases q:i<37
  ·rw [h3 i (by rw [m];exact q)];by_cases d:2≤i
   ·rw [sgL_get b i d];by_cases a:i<36;·rw [XK Ws,XK a]
    ·rw [XJ Ws,XJ a,uB,sgL_get l i d,XJ a]
   ·rw [XJ Ws];obtain rfl | rfl:i=0∨i=1:=Ws
    ·rfl
    ·rfl
  ·rw [Xy (by rw [h2,m];omega),uQ (by rw [sgL_len b];omega)]
 unfold qc;rw [p,e]
theorem zbU {ops:Array Oper}{rest:List Oper}{op:Oper}{a:Act}{w:World}{Q:Exit→Act→World→Prop}(e:op.guard=none)(x y:Operand)(q:op.op = .store 51 x y){g:Nat}{k0:yY}(i:qc w g sa la k0 mv)(d:k0.root.length=32)(l:k.root.length=32)(p:a.eval x = .pointer (some ⟨g,2,none⟩))(m:a.eval y = .agg (yV k))(h:∀ w',qc w' g sa la k mv→zb [g] w w'→wpList prog ops Q rest (a.put op.dst undef) w'):wpList prog ops Q (op::rest) a w:=by
 have b:(yV k).size=34:=by simp [yV,xW l]
 refine wpList_store_mid e 51 x y q g 2 (yV k) p m (fun j n=>?_) (by rw [b];exact J4) (all_oneCell_toArray (keyL_one k)) (h _ ?_ (yO _ _ _ _))
 ·rw [b] at n;have f:2+j<(sgL sa la k0 mv).length:=by rw [sgL_len d];omega
  exact⟨by rw [za (v:=(sgL sa la k0 mv)[2+j]) i (by simp [f])];rfl,zh i⟩
 ·exact i.setKey d l
def k8 (root:List UInt8):yY:=⟨8,1,root⟩
def leafQ (i:Nat):List UInt8:=zaq [113] i 8
def leavesQ (k:Nat):List UInt8:=((List.range k).map leafQ).flatten
def rootQ:List UInt8:=vw (leafQ 0) (leafQ 1)
theorem keyInt:Keyed prog 3:=Maps.int_keyed underlying3
theorem run_slice32 (W:World)(cs:List Value)(h:cs.length=32):(Instr.buildSlice 78 1 #[(0,.agg cs.toArray)]).run prog W = .ok (.slice (some ⟨W.heap.size,0,none⟩) 1 1) (W.alloc (.cells cs.toArray 49)):=by
 obtain⟨b,d⟩:∃ b,Tryz.prog.info? 49=some b:=by
  cases j:Tryz.prog.info? 49 with
  | none=>have e:=ja;rw [j] at e;cases e
  | some b=>exact⟨b,rfl⟩
 have a:b.size=32:=by have e:=ja;rw [d] at e;simpa using e
 obtain⟨z,f⟩:∃ z,b.zero=some z:=by have f:=J8;rw [d] at f;exact Option.isSome_iff_exists.1 f
 exact run_buildSlice W _ _ 1 #[(0,.agg cs.toArray)] cs.toArray b z underlying78 d f (by rw [a];decide) (by rw [a];decide) (by
  have i:=zbe (n:=32) h Wo z;rw [a];exact i)
section
variable {ops : Array Oper} {o : Oper} {a : Act} {w : World} {K : Act → World → Prop} {Q : Exit → Act → World → Prop} {E : Prop}
theorem zao (i:o.guard=none)(x:Operand)(k:o.op = .load 49 x){g of:Nat}{l:List UInt8}{b:Array Value}(f:w.rangeAt g of (l.map bv))(d:l.length=32)(j:a.eval x = .pointer (some ⟨g,of,none⟩))(e:b=(l.map bv).toArray)(h:K (a.put o.dst (.agg b)) w) : if Region.wanted o (yielded ops a.tmps)=true then Oper.wp prog o a w K Q else E:=by
 subst e;rw [XK (by simp [Region.wanted,i])];exact wp_load_mid 49 x k g of j (l.map bv) _ f underlying49 rfl (by rw [Xb,d];exact ja) h
theorem YA (i:o.guard=none)(x:Operand)(k:o.op = .buildSlice 78 1 #[(0,x)]){l:List UInt8}{b:Array Value}(e:l.length=32)(j:a.eval x = .agg b)(f:b=(l.map bv).toArray)(h:K (a.put o.dst (.slice (some ⟨w.heap.size,0,none⟩) 1 1)) (w.alloc (.cells b 49))) : if Region.wanted o (yielded ops a.tmps)=true then Oper.wp prog o a w K Q else E:=by
 rw [XK (by simp [Region.wanted,i])];unfold Oper.wp execOp;simp only [k,Sem.run_bind,List.map_toArray,Xf,X3,j];have d:=run_slice32 w (l.map bv) (by simp [e]);rw [← f] at d;rw [d];exact h
end
end Go.Proofs.YtjccecajigmfkaaGreatDoor

/- Parts of one proof, merged: XSp. -/
import Derived.Test.YtibnfbglanpoiaaGreatDoorQcD
import Derived.Test.YtibnfbglanpoiaaGreatDoorQcB
import Derived.Test.YtibnfbglanpoiaaGreatDoorQcC
import Derived.Test.YtibnfbglanpoiaaGreatDoorQcM
import Derived.Test.YtibnfbglanpoiaaGreatDoorQcG
import Derived.Laws.Cover1
set_option linter.all false
set_option maxHeartbeats 12800000
set_option maxRecDepth 10000
set_option linter.unusedVariables false
set_option linter.unusedSimpArgs false
set_option linter.unnecessarySimpa false
namespace Go.Proofs.YtibnfbglanpoiaaGreatDoor
open Go.RowKit
section
variable {P : Program} {ops : Array Oper} {Q : Exit → Act → World → Prop} {md : Region.Mode} {S : World → Prop} {L : Nat}
theorem bP {O:Array Oper}{i j:Nat}{oi oj:Oper}{fuel:Nat}{listed:Array Bool}{a:Act}{w:World}(hO:O=ops) (hi:ops[i]? = some oi) (hj:ops[j]? = some oj) (hr:Region.ready md ops listed=[i,j])
  (hwi:Region.wanted oi (yielded ops a.tmps)=true) (hwj:Region.wanted oj (yielded ops a.tmps)=true)
  (h1:∀ K:Act→World→Prop,(∀ a' w',(i=L∨S w')→zM P md O Q S L fuel (listed.setIfInBounds i true) a' w'→K a' w')→oi.wp P a w K Q)
  (h2:∀ K:Act→World→Prop,(∀ a' w',(j=L∨S w')→zM P md O Q S L fuel (listed.setIfInBounds j true) a' w'→K a' w')→oj.wp P a w K Q):zM P md O Q S L (fuel + 1) listed a w:=by
 subst hO
 refine⟨fun h0=>(by rw [hr] at h0;cases h0),?_⟩
 rw [hr]
 intro m hm
 simp only [List.mem_cons,List.not_mem_nil,or_false] at hm
 rcases hm with rfl | rfl
 ·unfold wpOp
  rw [hi]
  simp only
  rw [if_pos hwi]
  exact .inl (h1 _ fun a' w' e1 e2=>⟨e1,e2⟩)
 ·unfold wpOp
  rw [hj]
  simp only
  rw [if_pos hwj]
  exact .inl (h2 _ fun a' w' e1 e2=>⟨e1,e2⟩)
end
theorem slc_head {P:Program}{t e size bytes:Nat}{z:Value}(T:yR P t e size bytes z) {w:World}{v:Value}{n:Nat}{xs:List Value}(h:Slc w size v n xs) (k:Nat) (hk:k≤n) :
  ∃ a c,(∀ W,(Instr.slice t v none (some (.int .i64 k)) none).run P W = .ok (.slice a k c) W)∧Slc w size (.slice a k c) k (xs.take (k * size)):=by
 obtain⟨v',-,-,h3,h4,-⟩:=h.cut T 0 k (Nat.zero_le _) hk
 obtain⟨a,c,rfl,-,-⟩:=h4.form
 exact⟨a,c,h3 rfl,by simpa using h4⟩
theorem slc_tail {P:Program}{t e size bytes:Nat}{z:Value}(T:yR P t e size bytes z) {w:World}{v:Value}{n:Nat}{xs:List Value}(h:Slc w size v n xs) (k:Nat) (hk:k≤n) :
  ∃ a c,(∀ W,(Instr.slice t v (some (.int .i64 k)) none none).run P W = .ok (.slice a (n - k) c) W)∧Slc w size (.slice a (n - k) c) (n - k) (xs.drop (k * size)):=by
 obtain⟨v',-,h3,-,h4,-⟩:=h.cut T k n hk (Nat.le_refl _)
 obtain⟨a,c,rfl,-,-⟩:=h4.form
 refine⟨a,c,h3 rfl,?_⟩
 have e2:List.take ((n - k) * size) (List.drop (k * size) xs)=List.drop (k * size) xs:=List.take_of_length_le (by rw [List.length_drop,h.1,Nat.sub_mul];exact Nat.le_refl _)
 rw [e2] at h4
 exact h4
theorem Qa:∀ (l:List (ByteArray × List Value)) (k:Nat),(∀ p,p ∈ l→p.2.length=5)→(zX l).take (k * 6)=zX (l.take k)
 | _,0,_=>by simp [zX]
 | [],k + 1,_=>by simp [zX]
 | p :: t,k + 1,h=>by
  have hp:(yJ p).length=6:=by simp [yJ,h p (List.mem_cons_self ..)]
  rw [List.take_succ_cons]
  show List.take ((k + 1) * 6) (yJ p ++ zX t)=yJ p ++ zX (t.take k)
  rw [List.take_append,List.take_of_length_le (by omega),hp,show (k + 1) * 6 - 6=k * 6 by omega,Qa t k (fun q hq=>h q (List.mem_cons_of_mem _ hq))]
theorem Qb:∀ (l:List (ByteArray × List Value)) (k:Nat),(∀ p,p ∈ l→p.2.length=5)→(zX l).drop (k * 6)=zX (l.drop k)
 | _,0,_=>by simp
 | [],k + 1,_=>by simp [zX]
 | p :: t,k + 1,h=>by
  have hp:(yJ p).length=6:=by simp [yJ,h p (List.mem_cons_self ..)]
  rw [List.drop_succ_cons]
  show List.drop ((k + 1) * 6) (yJ p ++ zX t)=zX (t.drop k)
  rw [List.drop_append,List.drop_eq_nil_of_le (by omega),hp,show (k + 1) * 6 - 6=k * 6 by omega,Qb t k (fun q hq=>h q (List.mem_cons_of_mem _ hq)),List.nil_append]
theorem slc_six {w:World}{x:Value}{m:Nat}{ms:List (ByteArray × List Value)}(h:Slc w 6 x m (zX ms)) (h6:∀ c,c ∈ ms.map yJ→c.length=6) {j:Nat}(hj:j < ms.length) :
  ∃ g o cap,x = .slice (some ⟨g,o,none⟩) m cap∧w.cell? ⟨g,o + j * 6,none⟩=some (.string ms[j].1):=by
 obtain⟨hl,h⟩:=h
 have hf:=vB (ms.map yJ) h6
 rw [← qx,List.length_map] at hf
 rcases h with ⟨rfl,h0⟩ | ⟨h0,_⟩ | ⟨g,o,cap,rfl,-,-,hr⟩
 ·omega
 ·omega
 ·refine⟨g,o,cap,rfl,hr.cells (j * 6) _ ?_⟩
  have:=ku (ms.map yJ) j 0 h6 (by simpa using hj) (by omega)
  rw [← qx,Nat.add_zero] at this
  rw [this]
  simp [yJ]
theorem nodup_right {n:Nat}{v:VS (V n)}(h:zo (n + 1) v=true):(v.m.map (fun p=>p.1)).Nodup:=by
 rcases kK (kM h) with g | g | g | g | g | g
 ·rw [g.2.2.2.2];simp
 ·rw [g.2.2.2.2];simp
 ·rw [g.2.2.2.2];simp
 ·rw [g.2.2.2.2];simp
 ·rw [g.2.2.2];simp
 ·have h5:=g.2.2.2.2
  unfold yY at h5
  rw [Bool.and_eq_true] at h5
  simpa using h5.2
theorem ZC (a b:ByteArray):Op.bytesLess a.toList b.toList=ltB a b:=by
 have e:∀ (l m:List UInt8),Op.bytesLess l m=decide (l < m):=by
  intro l
  induction l with
  | nil=>intro m;cases m <;> simp [Op.bytesLess]
  | cons a x ih=>
   intro m
   cases m with
   | nil=>simp [Op.bytesLess]
   | cons b y=>
    unfold Op.bytesLess
    rw [ih,Bool.eq_iff_iff]
    simp only [Bool.or_eq_true,Bool.and_eq_true,decide_eq_true_eq,beq_iff_eq,List.cons_lt_cons_iff]
 rw [ByteArray.toList_eq,ByteArray.toList_eq,e]
 rfl
theorem gtr_yes {a b:ByteArray}(h:ltB b a=true):Op.bytesLess a.toList b.toList=false∧(a.toList == b.toList)=false:=by
 have h1:ltB a b=false:=by
  cases h2:ltB a b with
  | false=>rfl
  | true=>exact absurd h2 (ltB_asymm h)
 exact⟨by rw [ZC];exact h1,(kF (fun e=>by subst e;rw [h] at h1;cases h1)).1⟩
theorem gtr_no {a b:ByteArray}(h:ltB b a=false):(!Op.bytesLess a.toList b.toList && !a.toList == b.toList)=false:=by
 rw [ZC]
 cases h2:ltB a b with
 | true=>rfl
 | false=>
  have e:=ltB_none (a:=a) (b:=b) (by rw [h2];decide) (by rw [h];decide)
  subst e
  rw [(k9 rfl).1]
  rfl
theorem zI.take {α β:Type}{R:α→β→Prop}{xs:List α}{ys:List β}(h:zI R xs ys) (k:Nat):zI R (xs.take k) (ys.take k):=by
 refine⟨by rw [List.length_take,List.length_take,h.1],fun j x y hx hy=>?_⟩
 rw [List.getElem?_take] at hx hy
 split at hx
 ·rename_i hj
  rw [if_pos hj] at hy
  exact h.2 j x y hx hy
 ·cases hx
theorem zI.drop {α β:Type}{R:α→β→Prop}{xs:List α}{ys:List β}(h:zI R xs ys) (k:Nat):zI R (xs.drop k) (ys.drop k):=by
 refine⟨by rw [List.length_drop,List.length_drop,h.1],fun j x y hx hy=>?_⟩
 rw [List.getElem?_drop] at hx hy
 exact h.2 (k + j) x y hx hy
theorem KI {α:Type}{R:List Value→α→Prop}{xs:List (ByteArray × List Value)}{ys:List (ByteArray × α)}(h:zI (jY R) xs ys) (hR:∀ c y,R c y→∀ u ∈ c,u.oneCell'=true):∀ u ∈ zX xs,u.oneCell'=true:=by
 intro u hu
 unfold zX at hu
 rw [List.mem_flatMap] at hu
 obtain⟨p,hp,hu⟩:=hu
 obtain⟨y,-,hy⟩:=h.mem_left hp
 rcases List.mem_cons.1 hu with rfl | hu
 ·rfl
 ·exact hR _ _ hy.2 u hu
theorem kept_cell (w:World) (p o:Nat) (v:Value):zb [p] w (w.setCell ⟨p,o,none⟩ v):=(zb.refl [p] w).setCell (p:=⟨p,o,none⟩) (.inl (by simp)) v
structure InsL {n:Nat}(W:World) (b3:Nat) (v:VS (V n)) (k:Nat) (wr:World) (vl:Value) (lcs:List (List Value)):Prop where
 blk:wr.heap[b3]? = some (.cells (jP v.kind v.num v.s vl (.slice none 0 0)) 25 (0,0))
 row:wr.ownsRow W.heap.size 25 5 vl k lcs.flatten
 all:zI (Rep n (fun g=>W.heap.size≤g∧vl.ownBlock≠some g) wr) lcs ((v.l.take k).map (zz n))
 kept:zb [b3] W wr
structure InsM {n:Nat}(W:World) (b3:Nat) (v:VS (V n)) (vl:Value) (k:Nat) (wr:World) (vm:Value) (mcs:List (ByteArray × List Value)) (ms:List (ByteArray × V n)):Prop where
 blk:wr.heap[b3]? = some (.cells (jP v.kind v.num v.s vl vm) 25 (0,0))
 row:wr.ownsRow W.heap.size 132 6 vm ms.length (zX mcs)
 all:zI (jY (Rep n (fun g=>W.heap.size≤g∧vm.ownBlock≠some g) wr)) mcs ms
 kept:zb [b3] W wr
 ord:ms.Pairwise (fun x y=>leK x y=true)
 perm:ms.Perm ((v.m.take k).map (qt (zz n)))
 lim:ms.length=k
end Go.Proofs.YtibnfbglanpoiaaGreatDoor

/- Parts of one proof, merged: XKI XKJ XKR. -/
import Derived.Test.YtibnfbglanpoiaaGreatDoorQcM
import Derived.Deep.DeepCutAuto
import Derived.Deep.CutBlock
import Derived.Test.YtibnfbglanpoiaaGreatDoorQcH
set_option linter.all false
set_option maxHeartbeats 12800000
set_option maxRecDepth 10000
set_option linter.unusedVariables false
set_option linter.unusedSimpArgs false
set_option linter.unnecessarySimpa false
namespace Go.Proofs.YtibnfbglanpoiaaGreatDoor
open Go.Proofs.Tryz
open Go.RowKit
def yZ {α:Type}(v:VS α) (ok:Bool) (m:Int) (s:ByteArray) (l k:Nat):Prop:=zv v=(ok && decide (v.num=m) && decide (v.s=s) && decide (v.l.length=l) && decide (v.m.length=k))
theorem str_beq (a b:ByteArray):(a.toList == b.toList)=decide (a=b):=by
 by_cases h:a=b
 ·rw [(k9 h).1,decide_eq_true h]
 ·rw [(kF h).1,decide_eq_false h]
theorem nat_beq (a b:Nat):((a:Int) == (b:Int))=decide (a=b):=by
 by_cases h:a=b
 ·rw [(nat_eq h).1,decide_eq_true h]
 ·rw [(YW h).1,decide_eq_false h]
theorem plain_1 {α:Type}{v:VS α}(h:v.kind=1):yZ v true 0 ⟨#[]⟩ 0 0:=by
 unfold yZ zv vO;simp only [qw];rw [h];simp
theorem plain_2 {α:Type}{v:VS α}(h:v.kind=2):yZ v (decide (v.num=0∨v.num=1)) v.num ⟨#[]⟩ 0 0:=by
 unfold yZ zv vO;simp only [qw];rw [h];simp
theorem plain_3 {α:Type}{v:VS α}(h:v.kind=3):yZ v (decide (-9007199254740991≤v.num∧v.num≤9007199254740991)) v.num ⟨#[]⟩ 0 0:=by
 unfold yZ zv vO;simp only [qw];rw [h];simp
theorem plain_4 {α:Type}{v:VS α}(h:v.kind=4):yZ v (zJ v.s) 0 v.s 0 0:=by
 unfold yZ zv vO;simp only [qw];rw [h];simp [Bool.and_assoc]
theorem plain_5 {α:Type}{v:VS α}(h:v.kind=5):yZ v true 0 ⟨#[]⟩ v.l.length 0:=by
 unfold yZ zv vO;simp only [qw];rw [h];simp
theorem plain_6 {α:Type}{v:VS α}(h:v.kind=6):yZ v (yY v.m) 0 ⟨#[]⟩ 0 v.m.length:=by
 unfold yZ zv vO;simp only [qw];rw [h];simp
theorem plain_else {α:Type}{v:VS α}(h:¬ (v.kind=1∨v.kind=2∨v.kind=3∨v.kind=4∨v.kind=5∨v.kind=6)):zv v=false:=by
 unfold zv
 rw [if_neg (by omega),if_neg (by omega),if_neg (by omega),if_neg (by omega),if_neg (by omega),if_neg (by omega)]
set_option maxRecDepth 100000 in
theorem plain_any {n:Nat}{v:VS (V n)}{S:Nat→Prop}{w:World}{cs:List Value}(h:Rep (n + 1) S w cs v) (hs:yk (n + 1) v) (ht:ql w) :
  Calls Tryz.prog 170 #[.agg cs.toArray] w fun e w'=>e = .returned (.bool (zv v))∧zb [] w w':=by
 have Gw:=qI h
 have Jc:=qI hs
 have HT:=qI ht
 obtain⟨vl,vm,lcs,mcs,h⟩:=h
 obtain⟨a,c,b,e,rfl,rfl,rfl⟩:=h.forms
 have H:=qI h
 obtain⟨W1,Gf⟩:∃ W1,Hid (W1=(w.alloc (.cells #[.int .i64 v.kind,.int .i64 v.num,.string v.s,.slice a v.l.length c,.slice b v.m.length e] 25)).alloc (.cells #[.int .i64 v.kind,.int .i64 0,.string ⟨#[]⟩,.slice none 0 0,.slice none 0 0] 25)):=⟨_,qI rfl⟩
 have HB:Hid (qf W1 w.heap.size v.kind v.num v.s (.slice a v.l.length c) (.slice b v.m.length e)):=qI (by rw [Gf.o];exact (yQ w v.kind v.num v.s (.slice a v.l.length c) (.slice b v.m.length e) 25).kept0 ((zb.refl _ _).alloc _))
 have Gd:Hid (zb [] w W1):=qI (by rw [Gf.o];exact ((zb.refl [] w).alloc _).alloc _)
 have Gk:Hid (W1.heap[w.heap.size + 1]? = some (.cells (jP v.kind 0 ⟨#[]⟩ (.slice none 0 0) (.slice none 0 0)) 25 (0,0))):=qI (by rw [Gf.o];exact zd (by simp))
 have hsv:(v.s.size:Int)≤400000:=by have:=hs.2;have e:ya (n + 1) v=v.s.size + v.keyBytes + (v.kids.map (ya n)).sum:=rfl;omega
 have Je:Hid (∀ p,p ∈ v.m→p.1.size≤400000):=qI fun p hp=>Nat.le_trans (key_le hp) hs.2
 have HM:Hid (v.m.length≤20000):=qI (by have:=hs.few;omega)
 have Gx:Hid (∀ {w'},zb [] w w'→yF (Rep n S w') S w' _ v _ _ lcs mcs):=qI fun k=>{ cells:=h.cells,slcl:=h.slcl.kept0 k,alll:=h.alll.mono fun _ _ _ r=>r.kept0 k,slcm:=h.slcm.kept0 k,allm:=h.allm.mono fun _ _ _ r=>⟨r.1,r.2.kept0 k⟩,inl:=h.inl,inm:=h.inm,wfk:=h.wfk,wfn:=h.wfn }
 obtain⟨c0,c1,c2,c3,c4⟩:=HB.o
 rw [Gf.o] at c0 c1 c2 c3 c4
 clear h hs ht
 go_enter func170,ntmps170
 go_upto_block 0 with fail
 rw [← Gf.o]
 rw [← Gf.o] at c0 c1 c2 c3 c4
 go_cut [4] from 10 to 58 (fun q wr=>∃ (ok:Bool) (m:Int) (s:ByteArray) (l k:Nat) (al am:Option Addr) (cl cm:Nat),q = .bool ok∧zb [w.heap.size + 1] W1 wr∧qf wr (w.heap.size + 1) v.kind m s (.slice al l cl) (.slice am k cm)∧Hid (yZ v ok m s l k))
 case first=>
  by_cases k1:v.kind=1
  ·have f1:=(xt k1).1
   have Gc:=qI (plain_1 k1)
   clear k1
   go_wp2_with fail
   go_meet
   exact⟨true,0,⟨#[]⟩,0,0,_,_,_,_,rfl,zb.refl _ _,⟨za Gk.o rfl,za Gk.o rfl,za Gk.o rfl,za Gk.o rfl,za Gk.o rfl⟩,Gc⟩
  have f1:=(yx k1).1
  by_cases k2:v.kind=2
  ·have f2:=(xt k2).1
   have Gc:=qI (plain_2 k2)
   by_cases n0:v.num=0
   ·have g1:=(xt n0).1
    have Gc:Hid (yZ v true v.num ⟨#[]⟩ 0 0):=qI (by have:=Gc.o;rw [decide_eq_true (.inl n0)] at this;exact this)
    clear k1 k2 n0
    go_wp2_with fail
    refine zr (n:=13) (fun w':World=>w'.cell? ⟨w.heap.size,1,none⟩=some (.int .i64 v.num)) 12 (by kernel_rfl) (by kernel_rfl) ?_
    change zM _ _ _ _ _ _ _ _ _ W1.drew
    have hSS:(fun w':World=>w'.cell? ⟨w.heap.size,1,none⟩=some (.int .i64 v.num)) W1.drew:=c1
    have hb2:W1.drew.heap[w.heap.size + 1]? = some (.cells (jP v.kind 0 ⟨#[]⟩ (.slice none 0 0) (.slice none 0 0)) 25 (0,0)):=Gk.o
    have Gb:Hid (zb [w.heap.size + 1] W1 W1.drew):=qI (zb.refl _ _).drew
    have Ge:Hid (zb [] w W1.drew):=qI Gd.o.drew
    clear c0 c1 c2 c3 c4
    revert hSS hb2 Gb Ge
    generalize W1.drew=W2
    intro hSS hb2 Gb Ge
    refine zG ?_
    intro O R hO hR
    have hQp:∀ c a (d:Nat) v w,R (.panic c) (a.put (some d) v) w→R (.panic c) a w:=by subst hR;exact fun _ _ _ _ _ h=>h
    refine qT 0 ?_ hO rfl rfl (by kernel_rfl) hQp (fun w hSw=>?_) hSS ?_
    rotate_left
    ·go_simp;try with_reducible rfl
    try simp only [zA,zN,zB,zC,zD]
    refine qT 1 ?_ hO rfl rfl (by kernel_rfl) hQp (fun w hSw=>?_) hSS ?_
    rotate_left
    ·go_simp;try with_reducible rfl
    try simp only [zA,zN,zB,zC,zD]
    refine qT 2 ?_ hO rfl rfl (by kernel_rfl) hQp (fun w hSw=>?_) hSS ?_
    rotate_left
    ·go_simp;try with_reducible rfl
    try simp only [zA,zN,zB,zC,zD]
    refine qT 3 ?_ hO rfl rfl (by kernel_rfl) hQp (fun w hSw=>?_) hSS ?_
    rotate_left
    ·go_simp;try with_reducible rfl
    try simp only [zA,zN,zB,zC,zD]
    refine qT 4 ?_ hO rfl rfl (by kernel_rfl) hQp (fun w hSw=>?_) hSS ?_
    rotate_left
    ·go_simp;try with_reducible rfl
    try simp only [zA,zN,zB,zC,zD]
    refine qT 5 ?_ hO rfl rfl (by kernel_rfl) hQp (fun w hSw=>?_) hSS ?_
    rotate_left
    ·go_simp;try with_reducible rfl
    try simp only [zA,zN,zB,zC,zD]
    refine qd (i:=6) (v:=undef) hO rfl rfl (by kernel_rfl) (by kernel_rfl) (by kernel_rfl) (by kernel_rfl) hQp (Or.inr ⟨by kernel_rfl,rfl⟩) hSS ?_
    try simp only [zA,zN,zB,zC,zD]
    refine qd (i:=7) (v:=undef) hO rfl rfl (by kernel_rfl) (by kernel_rfl) (by kernel_rfl) (by kernel_rfl) hQp (Or.inr ⟨by kernel_rfl,rfl⟩) hSS ?_
    try simp only [zA,zN,zB,zC,zD]
    refine qd (i:=8) (v:=undef) hO rfl rfl (by kernel_rfl) (by kernel_rfl) (by kernel_rfl) (by kernel_rfl) hQp (Or.inr ⟨by kernel_rfl,rfl⟩) hSS ?_
    try simp only [zA,zN,zB,zC,zD]
    refine qT 9 ?_ hO rfl rfl (by kernel_rfl) hQp (fun w hSw=>?_) hSS ?_
    rotate_left
    ·go_simp;try with_reducible rfl
    try simp only [zA,zN,zB,zC,zD]
    refine qT 10 ?_ hO rfl rfl (by kernel_rfl) hQp (fun w hSw=>?_) hSS ?_
    rotate_left
    ·go_simp;try with_reducible rfl
    try simp only [zA,zN,zB,zC,zD]
    have hc2:=za (o:=1) hb2 rfl
    have hf2:=zh (o:=1) hb2
    refine qO 11 hO rfl (by kernel_rfl) (fun K hK=>?_)
    go_simp
    have KS:=(zb.refl [w.heap.size + 1] W2).setCell (p:=⟨w.heap.size + 1,1,none⟩) (.inl (by simp)) (.int .i64 v.num)
    have hS2:(fun w':World=>w'.cell? ⟨w.heap.size,1,none⟩=some (.int .i64 v.num)) (W2.setCell ⟨w.heap.size + 1,1,none⟩ (.int .i64 v.num)):=KS.cell hSS (by simp)
    have hb3:(W2.setCell ⟨w.heap.size + 1,1,none⟩ (.int .i64 v.num)).heap[w.heap.size + 1]? = some (.cells #[.int .i64 v.kind,.int .i64 v.num,.string ⟨#[]⟩,.slice none 0 0,.slice none 0 0] 25 (0,0)):=ze hb2 rfl
    have Ga:=qI hb3
    have Gj:=qI (Gb.o.trans' KS)
    refine hK _ _ (.inr hS2) ?_
    clear hK K
    try simp only [zA,zN,zB,zC,zD]
    clear hSS hc2 hf2 hb2 hb3 KS
    have hSS:=hS2
    clear hS2
    refine qO 12 hO rfl (by kernel_rfl) (fun K hK=>?_)
    go_simp
    refine hK _ _ (.inl rfl) ?_
    clear hK K
    try simp only [zA,zN,zB,zC,zD]
    refine zE hO (by kernel_rfl) ?_ _
    subst hR
    try clear hQp hO O
    go_wp2_with fail
    go_meet
    exact⟨true,v.num,⟨#[]⟩,0,0,_,_,_,_,rfl,Gj.o,⟨za Ga.o rfl,za Ga.o rfl,za Ga.o rfl,za Ga.o rfl,za Ga.o rfl⟩,Gc⟩
   have g1:=(yx n0).1
   by_cases n1:v.num=1
   ·have g2:=(xt n1).1
    have Gc:Hid (yZ v true v.num ⟨#[]⟩ 0 0):=qI (by have:=Gc.o;rw [decide_eq_true (.inr n1)] at this;exact this)
    clear k1 k2 n0 n1
    go_wp2_with fail
    refine zr (n:=13) (fun w':World=>w'.cell? ⟨w.heap.size,1,none⟩=some (.int .i64 v.num)) 12 (by kernel_rfl) (by kernel_rfl) ?_
    change zM _ _ _ _ _ _ _ _ _ W1.drew
    have hSS:(fun w':World=>w'.cell? ⟨w.heap.size,1,none⟩=some (.int .i64 v.num)) W1.drew:=c1
    have hb2:W1.drew.heap[w.heap.size + 1]? = some (.cells (jP v.kind 0 ⟨#[]⟩ (.slice none 0 0) (.slice none 0 0)) 25 (0,0)):=Gk.o
    have Gb:Hid (zb [w.heap.size + 1] W1 W1.drew):=qI (zb.refl _ _).drew
    have Ge:Hid (zb [] w W1.drew):=qI Gd.o.drew
    clear c0 c1 c2 c3 c4
    revert hSS hb2 Gb Ge
    generalize W1.drew=W2
    intro hSS hb2 Gb Ge
    refine zG ?_
    intro O R hO hR
    have hQp:∀ c a (d:Nat) v w,R (.panic c) (a.put (some d) v) w→R (.panic c) a w:=by subst hR;exact fun _ _ _ _ _ h=>h
    refine qT 0 ?_ hO rfl rfl (by kernel_rfl) hQp (fun w hSw=>?_) hSS ?_
    rotate_left
    ·go_simp;try with_reducible rfl
    try simp only [zA,zN,zB,zC,zD]
    refine qT 1 ?_ hO rfl rfl (by kernel_rfl) hQp (fun w hSw=>?_) hSS ?_
    rotate_left
    ·go_simp;try with_reducible rfl
    try simp only [zA,zN,zB,zC,zD]
    refine qT 2 ?_ hO rfl rfl (by kernel_rfl) hQp (fun w hSw=>?_) hSS ?_
    rotate_left
    ·go_simp;try with_reducible rfl
    try simp only [zA,zN,zB,zC,zD]
    refine qT 3 ?_ hO rfl rfl (by kernel_rfl) hQp (fun w hSw=>?_) hSS ?_
    rotate_left
    ·go_simp;try with_reducible rfl
    try simp only [zA,zN,zB,zC,zD]
    refine qT 4 ?_ hO rfl rfl (by kernel_rfl) hQp (fun w hSw=>?_) hSS ?_
    rotate_left
    ·go_simp;try with_reducible rfl
    try simp only [zA,zN,zB,zC,zD]
    refine qT 5 ?_ hO rfl rfl (by kernel_rfl) hQp (fun w hSw=>?_) hSS ?_
    rotate_left
    ·go_simp;try with_reducible rfl
    try simp only [zA,zN,zB,zC,zD]
    refine qT 6 ?_ hO rfl rfl (by kernel_rfl) hQp (fun w hSw=>?_) hSS ?_
    rotate_left
    ·go_simp;try with_reducible rfl
    try simp only [zA,zN,zB,zC,zD]
    refine qT 7 ?_ hO rfl rfl (by kernel_rfl) hQp (fun w hSw=>?_) hSS ?_
    rotate_left
    ·go_simp;try with_reducible rfl
    try simp only [zA,zN,zB,zC,zD]
    refine qT 8 ?_ hO rfl rfl (by kernel_rfl) hQp (fun w hSw=>?_) hSS ?_
    rotate_left
    ·go_simp;try with_reducible rfl
    try simp only [zA,zN,zB,zC,zD]
    refine qT 9 ?_ hO rfl rfl (by kernel_rfl) hQp (fun w hSw=>?_) hSS ?_
    rotate_left
    ·go_simp;try with_reducible rfl
    try simp only [zA,zN,zB,zC,zD]
    refine qT 10 ?_ hO rfl rfl (by kernel_rfl) hQp (fun w hSw=>?_) hSS ?_
    rotate_left
    ·go_simp;try with_reducible rfl
    try simp only [zA,zN,zB,zC,zD]
    have hc2:=za (o:=1) hb2 rfl
    have hf2:=zh (o:=1) hb2
    refine qO 11 hO rfl (by kernel_rfl) (fun K hK=>?_)
    go_simp
    have KS:=(zb.refl [w.heap.size + 1] W2).setCell (p:=⟨w.heap.size + 1,1,none⟩) (.inl (by simp)) (.int .i64 v.num)
    have hS2:(fun w':World=>w'.cell? ⟨w.heap.size,1,none⟩=some (.int .i64 v.num)) (W2.setCell ⟨w.heap.size + 1,1,none⟩ (.int .i64 v.num)):=KS.cell hSS (by simp)
    have hb3:(W2.setCell ⟨w.heap.size + 1,1,none⟩ (.int .i64 v.num)).heap[w.heap.size + 1]? = some (.cells #[.int .i64 v.kind,.int .i64 v.num,.string ⟨#[]⟩,.slice none 0 0,.slice none 0 0] 25 (0,0)):=ze hb2 rfl
    have Ga:=qI hb3
    have Gj:=qI (Gb.o.trans' KS)
    refine hK _ _ (.inr hS2) ?_
    clear hK K
    try simp only [zA,zN,zB,zC,zD]
    clear hSS hc2 hf2 hb2 hb3 KS
    have hSS:=hS2
    clear hS2
    refine qO 12 hO rfl (by kernel_rfl) (fun K hK=>?_)
    go_simp
    refine hK _ _ (.inl rfl) ?_
    clear hK K
    try simp only [zA,zN,zB,zC,zD]
    refine zE hO (by kernel_rfl) ?_ _
    subst hR
    try clear hQp hO O
    go_wp2_with fail
    go_meet
    exact⟨true,v.num,⟨#[]⟩,0,0,_,_,_,_,rfl,Gj.o,⟨za Ga.o rfl,za Ga.o rfl,za Ga.o rfl,za Ga.o rfl,za Ga.o rfl⟩,Gc⟩
   ·have g2:=(yx n1).1
    have Gc:Hid (yZ v false v.num ⟨#[]⟩ 0 0):=qI (by have:=Gc.o;rw [decide_eq_false (by rintro (q | q);exact n0 q;exact n1 q)] at this;exact this)
    clear k1 k2 n0 n1
    go_wp2_with fail
    refine zr (n:=13) (fun w':World=>w'.cell? ⟨w.heap.size,1,none⟩=some (.int .i64 v.num)) 12 (by kernel_rfl) (by kernel_rfl) ?_
    change zM _ _ _ _ _ _ _ _ _ W1.drew
    have hSS:(fun w':World=>w'.cell? ⟨w.heap.size,1,none⟩=some (.int .i64 v.num)) W1.drew:=c1
    have hb2:W1.drew.heap[w.heap.size + 1]? = some (.cells (jP v.kind 0 ⟨#[]⟩ (.slice none 0 0) (.slice none 0 0)) 25 (0,0)):=Gk.o
    have Gb:Hid (zb [w.heap.size + 1] W1 W1.drew):=qI (zb.refl _ _).drew
    have Ge:Hid (zb [] w W1.drew):=qI Gd.o.drew
    clear c0 c1 c2 c3 c4
    revert hSS hb2 Gb Ge
    generalize W1.drew=W2
    intro hSS hb2 Gb Ge
    refine zG ?_
    intro O R hO hR
    have hQp:∀ c a (d:Nat) v w,R (.panic c) (a.put (some d) v) w→R (.panic c) a w:=by subst hR;exact fun _ _ _ _ _ h=>h
    refine qT 0 ?_ hO rfl rfl (by kernel_rfl) hQp (fun w hSw=>?_) hSS ?_
    rotate_left
    ·go_simp;try with_reducible rfl
    try simp only [zA,zN,zB,zC,zD]
    refine qT 1 ?_ hO rfl rfl (by kernel_rfl) hQp (fun w hSw=>?_) hSS ?_
    rotate_left
    ·go_simp;try with_reducible rfl
    try simp only [zA,zN,zB,zC,zD]
    refine qT 2 ?_ hO rfl rfl (by kernel_rfl) hQp (fun w hSw=>?_) hSS ?_
    rotate_left
    ·go_simp;try with_reducible rfl
    try simp only [zA,zN,zB,zC,zD]
    refine qT 3 ?_ hO rfl rfl (by kernel_rfl) hQp (fun w hSw=>?_) hSS ?_
    rotate_left
    ·go_simp;try with_reducible rfl
    try simp only [zA,zN,zB,zC,zD]
    refine qT 4 ?_ hO rfl rfl (by kernel_rfl) hQp (fun w hSw=>?_) hSS ?_
    rotate_left
    ·go_simp;try with_reducible rfl
    try simp only [zA,zN,zB,zC,zD]
    refine qT 5 ?_ hO rfl rfl (by kernel_rfl) hQp (fun w hSw=>?_) hSS ?_
    rotate_left
    ·go_simp;try with_reducible rfl
    try simp only [zA,zN,zB,zC,zD]
    refine qT 6 ?_ hO rfl rfl (by kernel_rfl) hQp (fun w hSw=>?_) hSS ?_
    rotate_left
    ·go_simp;try with_reducible rfl
    try simp only [zA,zN,zB,zC,zD]
    refine qT 7 ?_ hO rfl rfl (by kernel_rfl) hQp (fun w hSw=>?_) hSS ?_
    rotate_left
    ·go_simp;try with_reducible rfl
    try simp only [zA,zN,zB,zC,zD]
    refine qT 8 ?_ hO rfl rfl (by kernel_rfl) hQp (fun w hSw=>?_) hSS ?_
    rotate_left
    ·go_simp;try with_reducible rfl
    try simp only [zA,zN,zB,zC,zD]
    refine qT 9 ?_ hO rfl rfl (by kernel_rfl) hQp (fun w hSw=>?_) hSS ?_
    rotate_left
    ·go_simp;try with_reducible rfl
    try simp only [zA,zN,zB,zC,zD]
    refine qT 10 ?_ hO rfl rfl (by kernel_rfl) hQp (fun w hSw=>?_) hSS ?_
    rotate_left
    ·go_simp;try with_reducible rfl
    try simp only [zA,zN,zB,zC,zD]
    have hc2:=za (o:=1) hb2 rfl
    have hf2:=zh (o:=1) hb2
    refine qO 11 hO rfl (by kernel_rfl) (fun K hK=>?_)
    go_simp
    have KS:=(zb.refl [w.heap.size + 1] W2).setCell (p:=⟨w.heap.size + 1,1,none⟩) (.inl (by simp)) (.int .i64 v.num)
    have hS2:(fun w':World=>w'.cell? ⟨w.heap.size,1,none⟩=some (.int .i64 v.num)) (W2.setCell ⟨w.heap.size + 1,1,none⟩ (.int .i64 v.num)):=KS.cell hSS (by simp)
    have hb3:(W2.setCell ⟨w.heap.size + 1,1,none⟩ (.int .i64 v.num)).heap[w.heap.size + 1]? = some (.cells #[.int .i64 v.kind,.int .i64 v.num,.string ⟨#[]⟩,.slice none 0 0,.slice none 0 0] 25 (0,0)):=ze hb2 rfl
    have Ga:=qI hb3
    have Gj:=qI (Gb.o.trans' KS)
    refine hK _ _ (.inr hS2) ?_
    clear hK K
    try simp only [zA,zN,zB,zC,zD]
    clear hSS hc2 hf2 hb2 hb3 KS
    have hSS:=hS2
    clear hS2
    refine qO 12 hO rfl (by kernel_rfl) (fun K hK=>?_)
    go_simp
    refine hK _ _ (.inl rfl) ?_
    clear hK K
    try simp only [zA,zN,zB,zC,zD]
    refine zE hO (by kernel_rfl) ?_ _
    subst hR
    try clear hQp hO O
    go_wp2_with fail
    go_meet
    exact⟨false,v.num,⟨#[]⟩,0,0,_,_,_,_,rfl,Gj.o,⟨za Ga.o rfl,za Ga.o rfl,za Ga.o rfl,za Ga.o rfl,za Ga.o rfl⟩,Gc⟩
  have f2:=(yx k2).1
  by_cases k3:v.kind=3
  ·have f3:=(xt k3).1
   have Gc:=qI (plain_3 k3)
   by_cases n0:-9007199254740991≤v.num
   ·by_cases n1:v.num≤9007199254740991
    ·have Gc:Hid (yZ v true v.num ⟨#[]⟩ 0 0):=qI (by have:=Gc.o;rw [decide_eq_true ⟨n0,n1⟩] at this;exact this)
     clear k1 k2 k3
     go_wp2_with fail
     refine zr (n:=13) (fun w':World=>w'.cell? ⟨w.heap.size,1,none⟩=some (.int .i64 v.num)) 12 (by kernel_rfl) (by kernel_rfl) ?_
     change zM _ _ _ _ _ _ _ _ _ W1.drew
     have hSS:(fun w':World=>w'.cell? ⟨w.heap.size,1,none⟩=some (.int .i64 v.num)) W1.drew:=c1
     have hb2:W1.drew.heap[w.heap.size + 1]? = some (.cells (jP v.kind 0 ⟨#[]⟩ (.slice none 0 0) (.slice none 0 0)) 25 (0,0)):=Gk.o
     have Gb:Hid (zb [w.heap.size + 1] W1 W1.drew):=qI (zb.refl _ _).drew
     have Ge:Hid (zb [] w W1.drew):=qI Gd.o.drew
     clear c0 c1 c2 c3 c4
     revert hSS hb2 Gb Ge
     generalize W1.drew=W2
     intro hSS hb2 Gb Ge
     refine zG ?_
     intro O R hO hR
     have hQp:∀ c a (d:Nat) v w,R (.panic c) (a.put (some d) v) w→R (.panic c) a w:=by subst hR;exact fun _ _ _ _ _ h=>h
     refine qT 0 ?_ hO rfl rfl (by kernel_rfl) hQp (fun w hSw=>?_) hSS ?_
     rotate_left
     ·go_simp;try with_reducible rfl
     try simp only [zA,zN,zB,zC,zD]
     refine qT 1 ?_ hO rfl rfl (by kernel_rfl) hQp (fun w hSw=>?_) hSS ?_
     rotate_left
     ·go_simp;try with_reducible rfl
     try simp only [zA,zN,zB,zC,zD]
     refine qT 2 ?_ hO rfl rfl (by kernel_rfl) hQp (fun w hSw=>?_) hSS ?_
     rotate_left
     ·go_simp;try with_reducible rfl
     try simp only [zA,zN,zB,zC,zD]
     refine qT 3 ?_ hO rfl rfl (by kernel_rfl) hQp (fun w hSw=>?_) hSS ?_
     rotate_left
     ·go_simp;try with_reducible rfl
     try simp only [zA,zN,zB,zC,zD]
     refine qT 4 ?_ hO rfl rfl (by kernel_rfl) hQp (fun w hSw=>?_) hSS ?_
     rotate_left
     ·go_simp;try with_reducible rfl
     try simp only [zA,zN,zB,zC,zD]
     refine qT 5 ?_ hO rfl rfl (by kernel_rfl) hQp (fun w hSw=>?_) hSS ?_
     rotate_left
     ·go_simp;try with_reducible rfl
     try simp only [zA,zN,zB,zC,zD]
     refine qT 6 ?_ hO rfl rfl (by kernel_rfl) hQp (fun w hSw=>?_) hSS ?_
     rotate_left
     ·go_simp;try with_reducible rfl
     try simp only [zA,zN,zB,zC,zD]
     refine qT 7 ?_ hO rfl rfl (by kernel_rfl) hQp (fun w hSw=>?_) hSS ?_
     rotate_left
     ·go_simp;try with_reducible rfl
     try simp only [zA,zN,zB,zC,zD]
     refine qT 8 ?_ hO rfl rfl (by kernel_rfl) hQp (fun w hSw=>?_) hSS ?_
     rotate_left
     ·go_simp;try with_reducible rfl
     try simp only [zA,zN,zB,zC,zD]
     refine qT 9 ?_ hO rfl rfl (by kernel_rfl) hQp (fun w hSw=>?_) hSS ?_
     rotate_left
     ·go_simp;try with_reducible rfl
     try simp only [zA,zN,zB,zC,zD]
     refine qT 10 ?_ hO rfl rfl (by kernel_rfl) hQp (fun w hSw=>?_) hSS ?_
     rotate_left
     ·go_simp;try with_reducible rfl
     try simp only [zA,zN,zB,zC,zD]
     have hc2:=za (o:=1) hb2 rfl
     have hf2:=zh (o:=1) hb2
     refine qO 11 hO rfl (by kernel_rfl) (fun K hK=>?_)
     go_simp
     have KS:=(zb.refl [w.heap.size + 1] W2).setCell (p:=⟨w.heap.size + 1,1,none⟩) (.inl (by simp)) (.int .i64 v.num)
     have hS2:(fun w':World=>w'.cell? ⟨w.heap.size,1,none⟩=some (.int .i64 v.num)) (W2.setCell ⟨w.heap.size + 1,1,none⟩ (.int .i64 v.num)):=KS.cell hSS (by simp)
     have hb3:(W2.setCell ⟨w.heap.size + 1,1,none⟩ (.int .i64 v.num)).heap[w.heap.size + 1]? = some (.cells #[.int .i64 v.kind,.int .i64 v.num,.string ⟨#[]⟩,.slice none 0 0,.slice none 0 0] 25 (0,0)):=ze hb2 rfl
     have Ga:=qI hb3
     have Gj:=qI (Gb.o.trans' KS)
     refine hK _ _ (.inr hS2) ?_
     clear hK K
     try simp only [zA,zN,zB,zC,zD]
     clear hSS hc2 hf2 hb2 hb3 KS
     have hSS:=hS2
     clear hS2
     refine qO 12 hO rfl (by kernel_rfl) (fun K hK=>?_)
     go_simp
     refine hK _ _ (.inl rfl) ?_
     clear hK K
     try simp only [zA,zN,zB,zC,zD]
     refine zE hO (by kernel_rfl) ?_ _
     subst hR
     try clear hQp hO O
     go_wp2_with fail
     go_meet
     exact⟨true,v.num,⟨#[]⟩,0,0,_,_,_,_,rfl,Gj.o,⟨za Ga.o rfl,za Ga.o rfl,za Ga.o rfl,za Ga.o rfl,za Ga.o rfl⟩,Gc⟩
    ·have Gc:Hid (yZ v false v.num ⟨#[]⟩ 0 0):=qI (by have:=Gc.o;rw [decide_eq_false (fun q=>n1 q.2)] at this;exact this)
     have g2:=decide_eq_false n1
     clear k1 k2 k3 n1
     go_wp2_with fail
     refine zr (n:=13) (fun w':World=>w'.cell? ⟨w.heap.size,1,none⟩=some (.int .i64 v.num)) 12 (by kernel_rfl) (by kernel_rfl) ?_
     change zM _ _ _ _ _ _ _ _ _ W1.drew
     have hSS:(fun w':World=>w'.cell? ⟨w.heap.size,1,none⟩=some (.int .i64 v.num)) W1.drew:=c1
     have hb2:W1.drew.heap[w.heap.size + 1]? = some (.cells (jP v.kind 0 ⟨#[]⟩ (.slice none 0 0) (.slice none 0 0)) 25 (0,0)):=Gk.o
     have Gb:Hid (zb [w.heap.size + 1] W1 W1.drew):=qI (zb.refl _ _).drew
     have Ge:Hid (zb [] w W1.drew):=qI Gd.o.drew
     clear c0 c1 c2 c3 c4
     revert hSS hb2 Gb Ge
     generalize W1.drew=W2
     intro hSS hb2 Gb Ge
     refine zG ?_
     intro O R hO hR
     have hQp:∀ c a (d:Nat) v w,R (.panic c) (a.put (some d) v) w→R (.panic c) a w:=by subst hR;exact fun _ _ _ _ _ h=>h
     refine qT 0 ?_ hO rfl rfl (by kernel_rfl) hQp (fun w hSw=>?_) hSS ?_
     rotate_left
     ·go_simp;try with_reducible rfl
     try simp only [zA,zN,zB,zC,zD]
     refine qT 1 ?_ hO rfl rfl (by kernel_rfl) hQp (fun w hSw=>?_) hSS ?_
     rotate_left
     ·go_simp;try with_reducible rfl
     try simp only [zA,zN,zB,zC,zD]
     refine qT 2 ?_ hO rfl rfl (by kernel_rfl) hQp (fun w hSw=>?_) hSS ?_
     rotate_left
     ·go_simp;try with_reducible rfl
     try simp only [zA,zN,zB,zC,zD]
     refine qT 3 ?_ hO rfl rfl (by kernel_rfl) hQp (fun w hSw=>?_) hSS ?_
     rotate_left
     ·go_simp;try with_reducible rfl
     try simp only [zA,zN,zB,zC,zD]
     refine qT 4 ?_ hO rfl rfl (by kernel_rfl) hQp (fun w hSw=>?_) hSS ?_
     rotate_left
     ·go_simp;try with_reducible rfl
     try simp only [zA,zN,zB,zC,zD]
     refine qT 5 ?_ hO rfl rfl (by kernel_rfl) hQp (fun w hSw=>?_) hSS ?_
     rotate_left
     ·go_simp;try with_reducible rfl
     try simp only [zA,zN,zB,zC,zD]
     refine qT 6 ?_ hO rfl rfl (by kernel_rfl) hQp (fun w hSw=>?_) hSS ?_
     rotate_left
     ·go_simp;try with_reducible rfl
     try simp only [zA,zN,zB,zC,zD]
     refine qT 7 ?_ hO rfl rfl (by kernel_rfl) hQp (fun w hSw=>?_) hSS ?_
     rotate_left
     ·go_simp;try with_reducible rfl
     try simp only [zA,zN,zB,zC,zD]
     refine qT 8 ?_ hO rfl rfl (by kernel_rfl) hQp (fun w hSw=>?_) hSS ?_
     rotate_left
     ·go_simp;try with_reducible rfl
     try simp only [zA,zN,zB,zC,zD]
     refine qT 9 ?_ hO rfl rfl (by kernel_rfl) hQp (fun w hSw=>?_) hSS ?_
     rotate_left
     ·go_simp;try with_reducible rfl
     try simp only [zA,zN,zB,zC,zD]
     refine qT 10 ?_ hO rfl rfl (by kernel_rfl) hQp (fun w hSw=>?_) hSS ?_
     rotate_left
     ·go_simp;try with_reducible rfl
     try simp only [zA,zN,zB,zC,zD]
     have hc2:=za (o:=1) hb2 rfl
     have hf2:=zh (o:=1) hb2
     refine qO 11 hO rfl (by kernel_rfl) (fun K hK=>?_)
     go_simp
     have KS:=(zb.refl [w.heap.size + 1] W2).setCell (p:=⟨w.heap.size + 1,1,none⟩) (.inl (by simp)) (.int .i64 v.num)
     have hS2:(fun w':World=>w'.cell? ⟨w.heap.size,1,none⟩=some (.int .i64 v.num)) (W2.setCell ⟨w.heap.size + 1,1,none⟩ (.int .i64 v.num)):=KS.cell hSS (by simp)
     have hb3:(W2.setCell ⟨w.heap.size + 1,1,none⟩ (.int .i64 v.num)).heap[w.heap.size + 1]? = some (.cells #[.int .i64 v.kind,.int .i64 v.num,.string ⟨#[]⟩,.slice none 0 0,.slice none 0 0] 25 (0,0)):=ze hb2 rfl
     have Ga:=qI hb3
     have Gj:=qI (Gb.o.trans' KS)
     refine hK _ _ (.inr hS2) ?_
     clear hK K
     try simp only [zA,zN,zB,zC,zD]
     clear hSS hc2 hf2 hb2 hb3 KS
     have hSS:=hS2
     clear hS2
     refine qO 12 hO rfl (by kernel_rfl) (fun K hK=>?_)
     go_simp
     refine hK _ _ (.inl rfl) ?_
     clear hK K
     try simp only [zA,zN,zB,zC,zD]
     refine zE hO (by kernel_rfl) ?_ _
     subst hR
     try clear hQp hO O
     go_wp2_with fail
     go_meet
     exact⟨false,v.num,⟨#[]⟩,0,0,_,_,_,_,rfl,Gj.o,⟨za Ga.o rfl,za Ga.o rfl,za Ga.o rfl,za Ga.o rfl,za Ga.o rfl⟩,Gc⟩
   ·have Gc:Hid (yZ v false v.num ⟨#[]⟩ 0 0):=qI (by have:=Gc.o;rw [decide_eq_false (fun q=>n0 q.1)] at this;exact this)
    have g2:=decide_eq_false n0
    clear k1 k2 k3 n0
    go_wp2_with fail
    refine zr (n:=13) (fun w':World=>w'.cell? ⟨w.heap.size,1,none⟩=some (.int .i64 v.num)) 12 (by kernel_rfl) (by kernel_rfl) ?_
    change zM _ _ _ _ _ _ _ _ _ W1.drew
    have hSS:(fun w':World=>w'.cell? ⟨w.heap.size,1,none⟩=some (.int .i64 v.num)) W1.drew:=c1
    have hb2:W1.drew.heap[w.heap.size + 1]? = some (.cells (jP v.kind 0 ⟨#[]⟩ (.slice none 0 0) (.slice none 0 0)) 25 (0,0)):=Gk.o
    have Gb:Hid (zb [w.heap.size + 1] W1 W1.drew):=qI (zb.refl _ _).drew
    have Ge:Hid (zb [] w W1.drew):=qI Gd.o.drew
    clear c0 c1 c2 c3 c4
    revert hSS hb2 Gb Ge
    generalize W1.drew=W2
    intro hSS hb2 Gb Ge
    refine zG ?_
    intro O R hO hR
    have hQp:∀ c a (d:Nat) v w,R (.panic c) (a.put (some d) v) w→R (.panic c) a w:=by subst hR;exact fun _ _ _ _ _ h=>h
    refine qT 0 ?_ hO rfl rfl (by kernel_rfl) hQp (fun w hSw=>?_) hSS ?_
    rotate_left
    ·go_simp;try with_reducible rfl
    try simp only [zA,zN,zB,zC,zD]
    refine qT 1 ?_ hO rfl rfl (by kernel_rfl) hQp (fun w hSw=>?_) hSS ?_
    rotate_left
    ·go_simp;try with_reducible rfl
    try simp only [zA,zN,zB,zC,zD]
    refine qT 2 ?_ hO rfl rfl (by kernel_rfl) hQp (fun w hSw=>?_) hSS ?_
    rotate_left
    ·go_simp;try with_reducible rfl
    try simp only [zA,zN,zB,zC,zD]
    refine qT 3 ?_ hO rfl rfl (by kernel_rfl) hQp (fun w hSw=>?_) hSS ?_
    rotate_left
    ·go_simp;try with_reducible rfl
    try simp only [zA,zN,zB,zC,zD]
    refine qT 4 ?_ hO rfl rfl (by kernel_rfl) hQp (fun w hSw=>?_) hSS ?_
    rotate_left
    ·go_simp;try with_reducible rfl
    try simp only [zA,zN,zB,zC,zD]
    refine qT 5 ?_ hO rfl rfl (by kernel_rfl) hQp (fun w hSw=>?_) hSS ?_
    rotate_left
    ·go_simp;try with_reducible rfl
    try simp only [zA,zN,zB,zC,zD]
    refine qd (i:=6) (v:=undef) hO rfl rfl (by kernel_rfl) (by kernel_rfl) (by kernel_rfl) (by kernel_rfl) hQp (Or.inr ⟨by kernel_rfl,rfl⟩) hSS ?_
    try simp only [zA,zN,zB,zC,zD]
    refine qd (i:=7) (v:=undef) hO rfl rfl (by kernel_rfl) (by kernel_rfl) (by kernel_rfl) (by kernel_rfl) hQp (Or.inr ⟨by kernel_rfl,rfl⟩) hSS ?_
    try simp only [zA,zN,zB,zC,zD]
    refine qd (i:=8) (v:=undef) hO rfl rfl (by kernel_rfl) (by kernel_rfl) (by kernel_rfl) (by kernel_rfl) hQp (Or.inr ⟨by kernel_rfl,rfl⟩) hSS ?_
    try simp only [zA,zN,zB,zC,zD]
    refine qT 9 ?_ hO rfl rfl (by kernel_rfl) hQp (fun w hSw=>?_) hSS ?_
    rotate_left
    ·go_simp;try with_reducible rfl
    try simp only [zA,zN,zB,zC,zD]
    refine qT 10 ?_ hO rfl rfl (by kernel_rfl) hQp (fun w hSw=>?_) hSS ?_
    rotate_left
    ·go_simp;try with_reducible rfl
    try simp only [zA,zN,zB,zC,zD]
    have hc2:=za (o:=1) hb2 rfl
    have hf2:=zh (o:=1) hb2
    refine qO 11 hO rfl (by kernel_rfl) (fun K hK=>?_)
    go_simp
    have KS:=(zb.refl [w.heap.size + 1] W2).setCell (p:=⟨w.heap.size + 1,1,none⟩) (.inl (by simp)) (.int .i64 v.num)
    have hS2:(fun w':World=>w'.cell? ⟨w.heap.size,1,none⟩=some (.int .i64 v.num)) (W2.setCell ⟨w.heap.size + 1,1,none⟩ (.int .i64 v.num)):=KS.cell hSS (by simp)
    have hb3:(W2.setCell ⟨w.heap.size + 1,1,none⟩ (.int .i64 v.num)).heap[w.heap.size + 1]? = some (.cells #[.int .i64 v.kind,.int .i64 v.num,.string ⟨#[]⟩,.slice none 0 0,.slice none 0 0] 25 (0,0)):=ze hb2 rfl
    have Ga:=qI hb3
    have Gj:=qI (Gb.o.trans' KS)
    refine hK _ _ (.inr hS2) ?_
    clear hK K
    try simp only [zA,zN,zB,zC,zD]
    clear hSS hc2 hf2 hb2 hb3 KS
    have hSS:=hS2
    clear hS2
    refine qO 12 hO rfl (by kernel_rfl) (fun K hK=>?_)
    go_simp
    refine hK _ _ (.inl rfl) ?_
    clear hK K
    try simp only [zA,zN,zB,zC,zD]
    refine zE hO (by kernel_rfl) ?_ _
    subst hR
    try clear hQp hO O
    go_wp2_with fail
    go_meet
    exact⟨false,v.num,⟨#[]⟩,0,0,_,_,_,_,rfl,Gj.o,⟨za Ga.o rfl,za Ga.o rfl,za Ga.o rfl,za Ga.o rfl,za Ga.o rfl⟩,Gc⟩
  have f3:=(yx k3).1
  by_cases k4:v.kind=4
  ·have f4:=(xt k4).1
   have Gc:=qI (plain_4 k4)
   clear k1 k2 k3 k4
   go_wp2_with fail
   refine zr (n:=8) (fun w':World=>w'.cell? ⟨w.heap.size,2,none⟩=some (.string v.s)) 7 (by kernel_rfl) (by kernel_rfl) ?_
   change zM _ _ _ _ _ _ _ _ _ W1.drew
   have hSS:(fun w':World=>w'.cell? ⟨w.heap.size,2,none⟩=some (.string v.s)) W1.drew:=c2
   have hb2:W1.drew.heap[w.heap.size + 1]? = some (.cells (jP v.kind 0 ⟨#[]⟩ (.slice none 0 0) (.slice none 0 0)) 25 (0,0)):=Gk.o
   have Gb:Hid (zb [w.heap.size + 1] W1 W1.drew):=qI (zb.refl _ _).drew
   have Ge:Hid (zb [] w W1.drew):=qI Gd.o.drew
   clear c0 c1 c2 c3 c4
   revert hSS hb2 Gb Ge
   generalize W1.drew=W2
   intro hSS hb2 Gb Ge
   refine zG ?_
   intro O R hO hR
   have hQp:∀ c a (d:Nat) v w,R (.panic c) (a.put (some d) v) w→R (.panic c) a w:=by subst hR;exact fun _ _ _ _ _ h=>h
   refine qT 0 ?_ hO rfl rfl (by kernel_rfl) hQp (fun w hSw=>?_) hSS ?_
   rotate_left
   ·go_simp;try with_reducible rfl
   try simp only [zA,zN,zB,zC,zD]
   refine qT 1 ?_ hO rfl rfl (by kernel_rfl) hQp (fun w hSw=>?_) hSS ?_
   rotate_left
   ·go_simp;try with_reducible rfl
   try simp only [zA,zN,zB,zC,zD]
   refine qT 2 ?_ hO rfl rfl (by kernel_rfl) hQp (fun w hSw=>?_) hSS ?_
   rotate_left
   ·go_simp;try with_reducible rfl
   try simp only [zA,zN,zB,zC,zD]
   refine qT 3 ?_ hO rfl rfl (by kernel_rfl) hQp (fun w hSw=>?_) hSS ?_
   rotate_left
   ·go_simp;try with_reducible rfl
   try simp only [zA,zN,zB,zC,zD]
   refine qT 5 ?_ hO rfl rfl (by kernel_rfl) hQp (fun w hSw=>?_) hSS ?_
   rotate_left
   ·go_simp;try with_reducible rfl
   try simp only [zA,zN,zB,zC,zD]
   refine qO 4 hO rfl (by kernel_rfl) (fun K hK=>?_)
   go_simp
   refine Calls.mono (QY (HT.o.kept0 Ge.o) v.s (by omega)) ?_;rintro e w3 ⟨rfl,hk3⟩
   have hS2:(fun w':World=>w'.cell? ⟨w.heap.size,2,none⟩=some (.string v.s)) w3:=hk3.cell hSS (by simp)
   have hb3:=hk3.heap hb2 (by simp)
   have Gy:=qI (Gb.o.then hk3)
   refine hK _ _ (.inr hS2) ?_
   clear hK K
   try simp only [zA,zN,zB,zC,zD]
   clear hSS hb2 hk3 Gb
   have hSS:=hS2
   have hb2:=hb3
   have Gb:=Gy
   clear hS2 hb3 Gy
   revert hSS hb2 Gb
   generalize w3=W2
   intro hSS hb2 Gb
   have hc2:=za (o:=2) hb2 rfl
   have hf2:=zh (o:=2) hb2
   refine qO 6 hO rfl (by kernel_rfl) (fun K hK=>?_)
   go_simp
   have KS:=(zb.refl [w.heap.size + 1] W2).setCell (p:=⟨w.heap.size + 1,2,none⟩) (.inl (by simp)) (.string v.s)
   have hS2:(fun w':World=>w'.cell? ⟨w.heap.size,2,none⟩=some (.string v.s)) (W2.setCell ⟨w.heap.size + 1,2,none⟩ (.string v.s)):=KS.cell hSS (by simp)
   have hb3:(W2.setCell ⟨w.heap.size + 1,2,none⟩ (.string v.s)).heap[w.heap.size + 1]? = some (.cells #[.int .i64 v.kind,.int .i64 0,.string v.s,.slice none 0 0,.slice none 0 0] 25 (0,0)):=ze hb2 rfl
   have Ga:=qI hb3
   have Gj:=qI (Gb.o.trans' KS)
   refine hK _ _ (.inr hS2) ?_
   clear hK K
   try simp only [zA,zN,zB,zC,zD]
   clear hSS hc2 hf2 hb2 hb3 KS
   have hSS:=hS2
   clear hS2
   refine qO 7 hO rfl (by kernel_rfl) (fun K hK=>?_)
   go_simp
   refine hK _ _ (.inl rfl) ?_
   clear hK K
   try simp only [zA,zN,zB,zC,zD]
   refine zE hO (by kernel_rfl) ?_ _
   subst hR
   try clear hQp hO O
   go_wp2_with fail
   go_meet
   exact⟨zJ v.s,0,v.s,0,0,_,_,_,_,rfl,Gj.o,⟨za Ga.o rfl,za Ga.o rfl,za Ga.o rfl,za Ga.o rfl,za Ga.o rfl⟩,Gc⟩
  have f4:=(yx k4).1
  by_cases k5:v.kind=5
  ·have f5:=(xt k5).1
   have Gc:=qI (plain_5 k5)
   have hc2:=za (o:=3) Gk.o rfl
   have hf2:=zh (o:=3) Gk.o
   clear k1 k2 k3 k4 k5
   go_wp2_with fail
   have hb3:(W1.setCell ⟨w.heap.size + 1,3,none⟩ (.slice a v.l.length c)).heap[w.heap.size + 1]? = some (.cells #[.int .i64 v.kind,.int .i64 0,.string ⟨#[]⟩,.slice a v.l.length c,.slice none 0 0] 25 (0,0)):=ze Gk.o rfl
   have Ga:=qI hb3
   go_meet
   exact⟨true,0,⟨#[]⟩,v.l.length,0,_,_,_,_,rfl,(zb.refl [w.heap.size + 1] W1).setCell (p:=⟨w.heap.size + 1,3,none⟩) (.inl (by simp)) _,⟨za Ga.o rfl,za Ga.o rfl,za Ga.o rfl,za Ga.o rfl,za Ga.o rfl⟩,Gc⟩
  have f5:=(yx k5).1
  by_cases k6:v.kind=6
  ·have f6:=(xt k6).1
   have Gc:=qI (plain_6 k6)
   clear k1 k2 k3 k4 k5 k6
   go_wp2_with fail
   refine zr (n:=8) (fun w':World=>w'.cell? ⟨w.heap.size,4,none⟩=some (.slice b v.m.length e)) 7 (by kernel_rfl) (by kernel_rfl) ?_
   change zM _ _ _ _ _ _ _ _ _ W1.drew
   have hSS:(fun w':World=>w'.cell? ⟨w.heap.size,4,none⟩=some (.slice b v.m.length e)) W1.drew:=c4
   have hb2:W1.drew.heap[w.heap.size + 1]? = some (.cells (jP v.kind 0 ⟨#[]⟩ (.slice none 0 0) (.slice none 0 0)) 25 (0,0)):=Gk.o
   have Gb:Hid (zb [w.heap.size + 1] W1 W1.drew):=qI (zb.refl _ _).drew
   have Ge:Hid (zb [] w W1.drew):=qI Gd.o.drew
   clear c0 c1 c2 c3 c4
   revert hSS hb2 Gb Ge
   generalize W1.drew=W2
   intro hSS hb2 Gb Ge
   refine zG ?_
   intro O R hO hR
   have hQp:∀ c a (d:Nat) v w,R (.panic c) (a.put (some d) v) w→R (.panic c) a w:=by subst hR;exact fun _ _ _ _ _ h=>h
   refine qT 0 ?_ hO rfl rfl (by kernel_rfl) hQp (fun w hSw=>?_) hSS ?_
   rotate_left
   ·go_simp;try with_reducible rfl
   try simp only [zA,zN,zB,zC,zD]
   refine qT 1 ?_ hO rfl rfl (by kernel_rfl) hQp (fun w hSw=>?_) hSS ?_
   rotate_left
   ·go_simp;try with_reducible rfl
   try simp only [zA,zN,zB,zC,zD]
   refine qT 2 ?_ hO rfl rfl (by kernel_rfl) hQp (fun w hSw=>?_) hSS ?_
   rotate_left
   ·go_simp;try with_reducible rfl
   try simp only [zA,zN,zB,zC,zD]
   refine qT 3 ?_ hO rfl rfl (by kernel_rfl) hQp (fun w hSw=>?_) hSS ?_
   rotate_left
   ·go_simp;try with_reducible rfl
   try simp only [zA,zN,zB,zC,zD]
   refine qT 5 ?_ hO rfl rfl (by kernel_rfl) hQp (fun w hSw=>?_) hSS ?_
   rotate_left
   ·go_simp;try with_reducible rfl
   try simp only [zA,zN,zB,zC,zD]
   refine qO 4 hO rfl (by kernel_rfl) (fun K hK=>?_)
   go_simp
   refine Calls.mono (keys_any (Gx.o Ge.o) HM.o Je.o (HT.o.kept0 Ge.o)) ?_;rintro e w3 ⟨rfl,hk3⟩
   have hS2:(fun w':World=>w'.cell? ⟨w.heap.size,4,none⟩=some (.slice b v.m.length e)) w3:=hk3.cell hSS (by simp)
   have hb3:=hk3.heap hb2 (by simp)
   have Gy:=qI (Gb.o.then hk3)
   refine hK _ _ (.inr hS2) ?_
   clear hK K
   try simp only [zA,zN,zB,zC,zD]
   clear hSS hb2 hk3 Gb
   have hSS:=hS2
   have hb2:=hb3
   have Gb:=Gy
   clear hS2 hb3 Gy
   revert hSS hb2 Gb
   generalize w3=W2
   intro hSS hb2 Gb
   have hc2:=za (o:=4) hb2 rfl
   have hf2:=zh (o:=4) hb2
   refine qO 6 hO rfl (by kernel_rfl) (fun K hK=>?_)
   go_simp
   have KS:=(zb.refl [w.heap.size + 1] W2).setCell (p:=⟨w.heap.size + 1,4,none⟩) (.inl (by simp)) (.slice b v.m.length e)
   have hS2:(fun w':World=>w'.cell? ⟨w.heap.size,4,none⟩=some (.slice b v.m.length e)) (W2.setCell ⟨w.heap.size + 1,4,none⟩ (.slice b v.m.length e)):=KS.cell hSS (by simp)
   have hb3:(W2.setCell ⟨w.heap.size + 1,4,none⟩ (.slice b v.m.length e)).heap[w.heap.size + 1]? = some (.cells #[.int .i64 v.kind,.int .i64 0,.string ⟨#[]⟩,.slice none 0 0,.slice b v.m.length e] 25 (0,0)):=ze hb2 rfl
   have Ga:=qI hb3
   have Gj:=qI (Gb.o.trans' KS)
   refine hK _ _ (.inr hS2) ?_
   clear hK K
   try simp only [zA,zN,zB,zC,zD]
   clear hSS hc2 hf2 hb2 hb3 KS
   have hSS:=hS2
   clear hS2
   refine qO 7 hO rfl (by kernel_rfl) (fun K hK=>?_)
   go_simp
   refine hK _ _ (.inl rfl) ?_
   clear hK K
   try simp only [zA,zN,zB,zC,zD]
   refine zE hO (by kernel_rfl) ?_ _
   subst hR
   try clear hQp hO O
   go_wp2_with fail
   go_meet
   exact⟨yY v.m,0,⟨#[]⟩,0,v.m.length,_,_,_,_,rfl,Gj.o,⟨za Ga.o rfl,za Ga.o rfl,za Ga.o rfl,za Ga.o rfl,za Ga.o rfl⟩,Gc⟩
  ·have f6:=(yx k6).1
   have HF:Hid (zv v=false):=qI (plain_else (by omega))
   clear k1 k2 k3 k4 k5 k6
   go_wp2_with fail
   go_ret
   rw [HF.o]
   exact⟨rfl,Gd.o⟩
 case rest=>
  obtain⟨ok,m,s,l,k,al,am,cl,cm,rfl,hkr,hb,HP⟩:=hcut
  have Gl:Hid (zb [] w wc):=qI (Gd.o.trans hkr (by intro i hi;simp at hi;subst hi;exact .inr (Nat.le_succ _)))
  have hb1:=HB.o.kept hkr (by simp)
  clear c0 c1 c2 c3 c4
  obtain⟨c0,c1,c2,c3,c4⟩:=hb1
  obtain⟨d0,d1,d2,d3,d4⟩:=hb
  have t1:(v.num == m)=decide (v.num=m):=rfl
  have t2:=str_beq v.s s
  have t3:=nat_beq v.l.length l
  have t4:=nat_beq v.m.length k
  clear hkr
  unfold yZ at HP
  revert HP t1 t2 t3 t4
  generalize decide (v.num=m)=q1
  generalize decide (v.s=s)=q2
  generalize decide (v.l.length=l)=q3
  generalize decide (v.m.length=k)=q4
  intro HP t1 t2 t3 t4
  have HF:Hid (zv v=(ok && q1 && q2 && q3 && q4)):=HP
  clear HP
  cases ok
  ·go_wp2_with fail
   go_ret
   rw [HF.o]
   exact⟨rfl,Gl.o⟩
  cases q1
  ·go_wp2_with fail
   go_ret
   rw [HF.o]
   exact⟨rfl,Gl.o⟩
  cases q2
  ·go_wp2_with fail
   go_ret
   rw [HF.o]
   exact⟨rfl,Gl.o⟩
  cases q3
  ·go_wp2_with fail
   go_ret
   rw [HF.o]
   exact⟨rfl,Gl.o⟩
  ·go_wp2_with fail
   go_ret
   rw [HF.o]
   exact⟨vT (by simp),Gl.o⟩
def WAt (w:World) (b:Nat) (d c:Nat) (r:Bool):Prop:=w.heap[b]? = some (.cells #[.int .i64 d,.int .i64 c,.bool r] 148 (0,0))
theorem WAt.kept {w w':World}{b d c:Nat}{r:Bool}{X:List Nat}(h:WAt w b d c r) (k:zb X w w') (hb:b ∉ X):WAt w' b d c r:=k.heap h hb
structure JQ {n:Nat}(v:VS (V n)) (d c:Nat) (r:Bool) (k:Nat) (ks:List (V n)) (D C:Nat) (R:Bool):Prop where
 hd:D=max (max d k) (k + qB (ks.map (zy n)))
 hc:C=c + 1 + (ks.map (zt n)).sum
 hr:R=(r || !(zv v && ks.all (zo n)))
theorem JQ.snoc {n:Nat}{v:VS (V n)}{d c:Nat}{r:Bool}{k:Nat}{ks:List (V n)}{D C:Nat}{R:Bool}(h:JQ v d c r k ks D C R) (x:V n) (hx:1≤zy n x) :
  JQ v d c r k (ks ++ [x]) (max D (k + 1 + zy n x - 1)) (C + zt n x) (R || !zo n x):=by
 obtain⟨h1,h2,h3⟩:=h
 refine⟨?_,?_,?_⟩
 ·rw [h1,List.map_append,maxL_app]
  simp only [List.map_cons,List.map_nil,qB]
  omega
 ·rw [h2,List.map_append,List.sum_append]
  simp only [List.map_cons,List.map_nil,List.sum_cons,List.sum_nil]
  omega
 ·rw [h3,List.all_append]
  simp only [List.all_cons,List.all_nil,Bool.and_true]
  cases r <;> cases zv v <;> cases ks.all (zo n) <;> cases zo n x <;> rfl
theorem JQ.all {n:Nat}{v:VS (V n)}{d c:Nat}{r:Bool}{k:Nat}{D C:Nat}{R:Bool}(h:JQ v d c r k v.kids D C R) :
  D=max d (k + zy (n + 1) v - 1)∧C=c + zt (n + 1) v∧R=(r || !zo (n + 1) v):=by
 obtain⟨h1,h2,h3⟩:=h
 have e1:zy (n + 1) v=1 + qB (v.kids.map (zy n)):=rfl
 have e2:zt (n + 1) v=1 + (v.kids.map (zt n)).sum:=rfl
 have e3:zo (n + 1) v=(zv v && v.kids.all (zo n)):=rfl
 exact⟨by omega,by omega,by rw [h3,e3]⟩
theorem zaj:∀ {n:Nat}(x:V n),1≤zy n x
 | 0,x=>nomatch x
 | n + 1,(x:VS (V n))=>by
  have e1:zy (n + 1) x=1 + qB (x.kids.map (zy n)):=rfl
  omega
theorem yF.keptX {n:Nat}{S:Nat→Prop}{w w':World}{cs:List Value}{v:VS (V n)}{vl vm:Value}{lcs:List (List Value)}{mcs:List (ByteArray × List Value)}{X:List Nat}
  (h:yF (Rep n S w) S w cs v vl vm lcs mcs) (k:zb X w w') (hX:∀ x,x ∈ X→¬ S x):yF (Rep n S w') S w' cs v vl vm lcs mcs:=
 {cells:=h.cells
  slcl:=h.slcl.kept k (fun g hg hx=>hX g hx (h.inl g hg))
  alll:=h.alll.mono fun _ _ _ r=>Rep.kept r k hX
  slcm:=h.slcm.kept k (fun g hg hx=>hX g hx (h.inm g hg))
  allm:=h.allm.mono fun _ _ _ r=>⟨r.1,Rep.kept r.2 k hX⟩
  inl:=h.inl
  inm:=h.inm
  wfk:=h.wfk
  wfn:=h.wfn }
theorem Qn {α:Type}(f:α→Nat) (l:List α) (j:Nat) (h:j < l.length):((l.take j).map f).sum + f l[j]≤(l.map f).sum:=by
 have h1:(l.map f).sum=((l.take (j + 1)).map f).sum + ((l.drop (j + 1)).map f).sum:=by
  rw [← List.sum_append,← List.map_append,List.take_append_drop]
 rw [h1,xw f l j h,List.sum_append]
 simp only [List.sum_cons,List.sum_nil]
 omega
def j9 (n : Nat) : Prop := ∀ (v : V n) {S : Nat → Prop} {w : World} {cs : List Value} {Wt : World} {b d c k : Nat} {r : Bool}, Rep n S w cs v → yk n v → n + k ≤ 1000 → d ≤ 100000 → c + zt n v ≤ 100000 → ql Wt → zb [] Wt w → Wt.heap.size ≤ b → WAt w b d c r → (∀ g, S g → g ≠ b) →
    Calls Tryz.prog 130 #[.pointer (some ⟨b,0,none⟩),.agg cs.toArray,.int .i64 k] w fun e w'=>e = .returned (.tuple #[])∧WAt w' b (max d (k + zy n v - 1)) (c + zt n v) (r || !zo n v)∧zb [b] w w'
theorem JH {n:Nat}(known:j9 n):j9 (n + 1):=fun (v:VS (V n)) {S}{w}{cs}{Wt}{b}{d}{c}{k}{r} h hs hn hd hc ht hkt hbt hw hS=>by
  have Gw:=qI h
  have Jc:=qI hs
  have HT:=qI ht
  have Jf:=qI hkt
  have HW:=qI hw
  have Jd:=qI hS
  obtain⟨vl,vm,lcs,mcs,h⟩:=h
  obtain⟨a,ca,ba,ea,rfl,rfl,rfl⟩:=h.forms
  have H:=qI h
  have IH:=qI known
  have hlv:v.l.length≤20000:=by have:=hs.few;omega
  have hmv:v.m.length≤20000:=by have:=hs.few;omega
  have hbl:b < w.heap.size:=lt_of_block hw
  obtain⟨W0,Gg⟩:∃ W0,Hid (W0=w.alloc (.cells #[.int .i64 v.kind,.int .i64 v.num,.string v.s,.slice a v.l.length ca,.slice ba v.m.length ea] 25)):=⟨_,qI rfl⟩
  have Gd:Hid (zb [] w W0):=qI (by rw [Gg.o];exact (zb.refl [] w).alloc _)
  have Jg:Hid (qf W0 w.heap.size v.kind v.num v.s (.slice a v.l.length ca) (.slice ba v.m.length ea)):=qI (by rw [Gg.o];exact yQ w v.kind v.num v.s (.slice a v.l.length ca) (.slice ba v.m.length ea) 25)
  have Gr:Hid (W0.heap[b]? = some (.cells #[.int .i64 d,.int .i64 c,.bool r] 148 (0,0))):=qI (Gd.o.heap hw (by simp))
  obtain⟨c0,c1,c2,c3,c4⟩:=Jg.o
  clear h hs ht hkt hw hS
  go_enter func130,ntmps130
  go_upto_region 1 with fail
  rw [← Gg.o]
  have w0:=za (o:=0) (v:=.int .i64 d) Gr.o rfl
  have w1:=za (o:=1) (v:=.int .i64 c) Gr.o rfl
  have w2:=za (o:=2) (v:=.bool r) Gr.o rfl
  have f0:=zh (o:=0) Gr.o
  have f1:=zh (o:=1) Gr.o
  have f2:=zh (o:=2) Gr.o
  go_upto_region 2 with fail
  have Gf:=qI (ze (v:=.int .i64 ((c:Int) + 1)) (i:=1) Gr.o rfl)
  have Gm:Hid (zb [b] W0 (W0.setCell ⟨b,1,none⟩ (.int .i64 ((c:Int) + 1)))):=qI ((zb.refl _ _).setCell (.inl (by simp)) _)
  clear w0 w1 w2 f0 f1 f2
  revert Gf Gm
  generalize W0.setCell ⟨b,1,none⟩ (.int .i64 ((c:Int) + 1))=W1
  intro Gf Gm
  have w0:=za (o:=0) (v:=.int .i64 d) Gf.o rfl
  have w1:=za (o:=1) (v:=.int .i64 ((c:Int) + 1)) Gf.o rfl
  have w2:=za (o:=2) (v:=.bool r) Gf.o rfl
  have f0:=zh (o:=0) Gf.o
  have f1:=zh (o:=1) Gf.o
  have f2:=zh (o:=2) Gf.o
  go_upto_region 3 with fail
  rw [show max (d:Int) (k:Int)=((max d k:Nat):Int) by omega]
  have Gi:=qI (ze (v:=.int .i64 ((max d k:Nat):Int)) (i:=0) Gf.o rfl)
  have Gh:Hid (zb [b] W0 (W1.setCell ⟨b,0,none⟩ (.int .i64 ((max d k:Nat):Int)))):=qI (Gm.o.setCell (.inl (by simp)) _)
  clear w0 w1 w2 f0 f1 f2 Gf Gm c0 c1 c2 c3 c4
  revert Gi Gh
  generalize W1.setCell ⟨b,0,none⟩ (.int .i64 ((max d k:Nat):Int))=W2
  intro Gi Gh
  have Gs:Hid (zb [b] w W2):=qI ((Gd.o.mono (by simp)).trans' Gh.o)
  have Gp:Hid (Rep (n + 1) S W2 [.int .i64 v.kind,.int .i64 v.num,.string v.s,.slice a v.l.length ca,.slice ba v.m.length ea] v):=qI (Gw.o.kept Gs.o (fun g hg hSg=>Jd.o g hSg (by simpa using hg)))
  have Jo:Hid (ql W2):=qI (HT.o.kept0 (Jf.o.trans Gs.o (fun i hi=>by simp at hi;subst hi;exact .inr hbt)))
  have hbne:w.heap.size≠b:=by omega
  obtain⟨c0,c1,c2,c3,c4⟩:=Jg.o.kept Gh.o (by simpa using hbne)
  go_cut [] from 26 to 37 (fun wr=>WAt wr b (max d k) (c + 1) (r || !zv v)∧zb [b] W0 wr)
  case first=>
   cases r with
   | true=>
    have w0:=za (o:=0) (v:=.int .i64 ((max d k:Nat):Int)) Gi.o rfl
    have w1:=za (o:=1) (v:=.int .i64 ((c:Int) + 1)) Gi.o rfl
    have w2:=za (o:=2) (v:=.bool true) Gi.o rfl
    have f0:=zh (o:=0) Gi.o
    have f1:=zh (o:=1) Gi.o
    have f2:=zh (o:=2) Gi.o
    go_wp2_with fail
    go_meet
    exact⟨ze Gi.o rfl,Gh.o.setCell (.inl (by simp)) _⟩
   | false=>
    have CP:=qI (plain_any Gp.o Jc.o Jo.o)
    have w2:=za (o:=2) (v:=.bool false) Gi.o rfl
    go_wp2_with (go_at_call 170;refine CP.o.mono ?_;rintro e w3 ⟨rfl,hk3⟩;have Jh:=qI (hk3.heap Gi.o (by simp));have Gj:=qI hk3;clear hk3 w2;have w2:=za (o:=2) (v:=.bool false) Jh.o rfl;have f2:=zh (o:=2) Jh.o)
    go_meet
    exact⟨ze Jh.o (by simp),(Gh.o.then Gj.o).setCell (.inl (by simp)) _⟩
  case rest=>
   obtain⟨hwc,hkc⟩:=hcut
   clear Gi Gh Gs Gp Jo c0 c1 c2 c3 c4
   have Jt:=qI hwc
   have Jp:Hid (zb [b] w wc):=qI ((Gd.o.mono (by simp)).trans' hkc)
   have Jq:=qI (Jg.o.kept hkc (by simpa using hbne))
   have HX:Hid (∀ {wr},zb [b] w wr→yF (Rep n S wr) S wr _ v _ _ lcs mcs):=qI fun k=>H.o.keptX k (fun x hx hSx=>Jd.o x hSx (by simpa using hx))
   have Jr:Hid (zt (n + 1) v=1 + ((v.l.map (zt n)).sum + (v.m.map (fun p=>zt n p.2)).sum)):=qI (by rw [← jC];rfl)
   have Ji:Hid (JQ v d c r k [] (max d k) (c + 1) (r || !zv v)):=qI ⟨by simp [qB],by simp,by simp⟩
   clear hwc hkc
   obtain⟨c0,c1,c2,c3,c4⟩:=Jq.o
   go_wp2_with fail
   clear c0 c1 c2 c3 c4
   go_loopw [41] (fun i wr=>∃ (j D C:Nat) (R:Bool),i = .int .i64 j∧j≤v.l.length∧WAt wr b D C R∧JQ v d c r k (v.l.take j) D C R∧zb [b] wc wr) (fun i _=>v.l.length - (intOf i).toNat)
   case atStart=>exact⟨0,_,_,_,rfl,Nat.zero_le _,Jt.o,Ji.o,zb.refl _ _⟩
   case round=>
    obtain⟨j,D,C,R,rfl,hj,hwt,hse,hkr⟩:=hrel
    have Gq:=qI hwt
    have Gn:=qI hse
    have Gt:=qI hkr
    have Gl:=qI (Jp.o.trans' hkr)
    clear hwt hse hkr
    by_cases hlt:j < v.l.length
    ·have hltI:(j:Int) < v.l.length:=by omega
     obtain⟨g,o,cap,kd,nm,st,a1,b1,he,q0,q1,q2,q3,q4,hr⟩:=(HX.o Gl.o).at_l (zb.refl _ _) j hlt
     simp only [Value.slice.injEq] at he
     obtain⟨rfl,-,rfl⟩:=he
     obtain⟨p1,i1,d1,p2,i2,d2,rfl,rfl⟩:=hr.sl
     have hD:D≤100000:=by
      rw [Gn.o.hd]
      have:qB ((v.l.take j).map (zy n))≤n:=be.2 (fun x hx=>by obtain⟨y,_,rfl⟩:=List.mem_map.1 hx;exact kb n y)
      omega
     have hC:C + zt n v.l[j]≤100000:=by
      rw [Gn.o.hc]
      have:=Qn (zt n) v.l j hlt
      have:=Jr.o
      omega
     have HA:=qI ((zb.refl [] wr).alloc (.cells #[.int .i64 kd,.int .i64 nm,.string st,.slice p1 i1 d1,.slice p2 i2 d2] 25))
     have CL:=qI (IH.o v.l[j] (hr.kept0 HA.o) (Jc.o.kid (kE (List.getElem_mem hlt))) (k:=k + 1) (by omega) hD hC HT.o ((Jf.o.trans Gl.o (fun i hi=>by simp at hi;subst hi;exact .inr hbt)).then HA.o) hbt (Gq.o.kept HA.o (by simp)) Jd.o)
     rw [show ((k + 1:Nat):Int)=(k:Int) + 1 from rfl] at CL
     have Gu:=qI (Gn.o.snoc v.l[j] (zaj _))
     have Gv:Hid (v.l.take (j + 1)=v.l.take j ++ [v.l[j]]):=qI (List.take_succ_eq_append_getElem hlt)
     clear hr hD hC
     go_wp2_with (go_at_call 130;refine CL.o.mono ?_;rintro e w2 ⟨rfl,hw2,hk2⟩;have Gi:=qI hw2;have Gh:=qI hk2;clear hw2 hk2)
     case roundEnd=>exact⟨⟨j + 1,_,_,_,by go_num,by omega,Gi.o,by rw [Gv.o];exact Gu.o,(Gt.o.then HA.o).trans' Gh.o⟩,by simp [intOf];omega⟩
    ·obtain rfl:j=v.l.length:=by omega
     obtain⟨c0,c1,c2,c3,c4⟩:=Jq.o.kept Gt.o (by simpa using hbne)
     have Gz:Hid (JQ v d c r k (v.l ++ (v.m.take 0).map (fun p=>p.2)) D C R):=qI (by have:=Gn.o;rw [List.take_length] at this;simpa using this)
     have Ja:=qI Gq.o
     have Jb:=qI Gt.o
     clear Gn Gq Gt Gl
     go_wp2_with fail
     clear c0 c1 c2 c3 c4
     go_loopw [54] (fun i wr=>∃ (j D C:Nat) (R:Bool),i = .int .i64 j∧j≤v.m.length∧WAt wr b D C R∧JQ v d c r k (v.l ++ (v.m.take j).map (fun p=>p.2)) D C R∧zb [b] wc wr) (fun i _=>v.m.length - (intOf i).toNat)
     case atStart=>exact⟨0,_,_,_,rfl,Nat.zero_le _,Ja.o,Gz.o,Jb.o⟩
     case round=>
      obtain⟨j,D,C,R,rfl,hj,hwt,hse,hkr⟩:=hrel
      clear Gz Ja Jb
      have Gq:=qI hwt
      have Gn:=qI hse
      have Gt:=qI hkr
      have Gl:=qI (Jp.o.trans' hkr)
      clear hwt hse hkr
      by_cases hlt:j < v.m.length
      ·have hltI:(j:Int) < v.m.length:=by omega
       obtain⟨g,o,cap,kd,nm,st,a1,b1,he,q0,q1,q2,q3,q4,q5,hr⟩:=(HX.o Gl.o).at_m (zb.refl _ _) j hlt
       simp only [Value.slice.injEq] at he
       obtain⟨rfl,-,rfl⟩:=he
       obtain⟨p1,i1,d1,p2,i2,d2,rfl,rfl⟩:=hr.sl
       have hD:D≤100000:=by
        rw [Gn.o.hd]
        have:qB ((v.l ++ (v.m.take j).map (fun p=>p.2)).map (zy n))≤n:=be.2 (fun x hx=>by obtain⟨y,_,rfl⟩:=List.mem_map.1 hx;exact kb n y)
        omega
       have hC:C + zt n v.m[j].2≤100000:=by
        rw [Gn.o.hc,List.map_append,List.sum_append,List.map_map]
        have:=Qn (fun p:ByteArray × V n=>zt n p.2) v.m j hlt
        have:=Jr.o
        have e:((v.m.take j).map (zt n ∘ fun p=>p.2)).sum=((v.m.take j).map (fun p=>zt n p.2)).sum:=rfl
        omega
       have Gv:Hid (v.l ++ (v.m.take (j + 1)).map (fun p=>p.2)=(v.l ++ (v.m.take j).map (fun p=>p.2)) ++ [v.m[j].2]):=qI (by rw [xw _ _ _ hlt,List.append_assoc])
       have Gu:=qI (Gn.o.snoc v.m[j].2 (zaj _))
       have HA:=qI ((zb.refl [] wr).alloc (.cells #[.string v.m[j].1,.int .i64 kd,.int .i64 nm,.string st,.slice p1 i1 d1,.slice p2 i2 d2] 132))
       have CL:=qI (IH.o v.m[j].2 (hr.kept0 HA.o) (Jc.o.kid (kD (List.getElem_mem hlt))) (k:=k + 1) (by omega) hD hC HT.o ((Jf.o.trans Gl.o (fun i hi=>by simp at hi;subst hi;exact .inr hbt)).then HA.o) hbt (Gq.o.kept HA.o (by simp)) Jd.o)
       rw [show ((k + 1:Nat):Int)=(k:Int) + 1 from rfl] at CL
       clear hr hD hC
       revert q0 Gv Gu HA CL
       generalize v.m[j]=pr
       obtain⟨key,x⟩:=pr
       intro q0 Gv Gu HA CL
       simp only at q0 Gv Gu HA CL
       go_wp2_with (go_at_call 130;refine CL.o.mono ?_;rintro e w2 ⟨rfl,hw2,hk2⟩;have Gi:=qI hw2;have Gh:=qI hk2;clear hw2 hk2)
       case roundEnd=>exact⟨⟨j + 1,_,_,_,by go_num,by omega,Gi.o,by rw [Gv.o];exact Gu.o,(Gt.o.then HA.o).trans' Gh.o⟩,by simp [intOf];omega⟩
      ·obtain rfl:j=v.m.length:=by omega
       have Ju:Hid (JQ v d c r k v.kids D C R):=qI (by have:=Gn.o;rw [List.take_length] at this;exact this)
       obtain⟨e1,e2,e3⟩:=Ju.o.all
       have Jj:Hid (WAt wr b (max d (k + zy (n + 1) v - 1)) (c + zt (n + 1) v) (r || !zo (n + 1) v)):=qI (by rw [← e1,← e2,← e3];exact Gq.o)
       clear e1 e2 e3
       go_wp2_with fail
       go_end0
       exact⟨rfl,Jj.o,Gl.o⟩
theorem Zd:∀ (n:Nat),j9 n
 | 0=>fun v {_}{_}{_}{_}{_}{_}{_}{_}{_} h _ _ _ _ _ _ _ _ _=>h.elim
 | n + 1=>JH (Zd n)
theorem down_any:∀ (n:Nat) (v:V n) {S:Nat→Prop}{w:World}{cs:List Value}{Wt:World}{b d c k:Nat}{r:Bool},Rep n S w cs v→yk n v→n + k≤1000→d≤100000→c + zt n v≤100000→ql Wt→zb [] Wt w→Wt.heap.size≤b→WAt w b d c r→(∀ g,S g→g≠b) →
  Calls Tryz.prog 130 #[.pointer (some ⟨b,0,none⟩),.agg cs.toArray,.int .i64 k] w fun e w'=>e = .returned (.tuple #[])∧WAt w' b (max d (k + zy n v - 1)) (c + zt n v) (r || !zo n v)∧zb [b] w w':=fun n=>Zd n
theorem look_any {n:Nat}{v:V n}{S:Nat→Prop}{w:World}{cs:List Value}(h:Rep n S w cs v) (hs:yk n v) (hn:n≤100) (ht:ql w) :
  Calls Tryz.prog 97 #[.agg cs.toArray] w fun e w'=>(∃ b,e = .returned (.pointer (some ⟨b,0,none⟩))∧WAt w' b (zy n v) (zt n v) (!zo n v))∧zb [] w w':=by
 obtain⟨kd,nm,st,a1,b1,rfl⟩:=h.five
 obtain⟨p1,i1,d1,p2,i2,d2,rfl,rfl⟩:=h.sl
 obtain⟨W0,Gg⟩:∃ W0,Hid (W0=w.alloc (.cells #[.int .i64 kd,.int .i64 nm,.string st,.slice p1 i1 d1,.slice p2 i2 d2] 25)):=⟨_,qI rfl⟩
 obtain⟨W1,Gf⟩:∃ W1,Hid (W1=W0.alloc (.cells #[.int .i64 0,.int .i64 0,.bool false] 148)):=⟨_,qI rfl⟩
 have Gd:Hid (zb [] w W0):=qI (by rw [Gg.o];exact (zb.refl [] w).alloc _)
 have Gm:Hid (zb [] w W1):=qI (by rw [Gf.o];exact Gd.o.alloc _)
 have Jv:Hid (W0.heap.size=w.heap.size + 1):=qI (by rw [Gg.o];simp)
 have Jk:Hid (qf W1 w.heap.size kd nm st (.slice p1 i1 d1) (.slice p2 i2 d2)):=qI (by rw [Gf.o,Gg.o];exact (yQ _ _ _ _ _ _ _).kept0 ((zb.refl _ _).alloc _))
 have Gq:Hid (WAt W1 (w.heap.size + 1) 0 0 false):=qI (by rw [Gf.o];exact zd Jv.o)
 have hct:=hs.1
 have CL:=qI (down_any n v ((h.mono (T:=fun g=>g < w.heap.size) (fun g hg _=>hg)).kept0 Gm.o) hs (k:=1) (by omega) (Nat.zero_le _) (by omega) ht Gm.o (Nat.le_succ _) Gq.o (fun g hg=>by omega))
 clear h hs ht hct
 rw [show ((1:Nat):Int)=1 from rfl] at CL
 have HD:Hid (max 0 (1 + zy n v - 1)=zy n v∧0 + zt n v=zt n v):=qI (by omega)
 go_enter func97,ntmps97
 go_wp2_with fail
 rw [← Gg.o,← Gf.o]
 refine CL.o.mono ?_
 rintro e w2 ⟨rfl,hw2,hk2⟩
 have Gi:Hid (WAt w2 (w.heap.size + 1) (zy n v) (zt n v) (!zo n v)):=qI (by rw [HD.o.1,HD.o.2] at hw2;simpa using hw2)
 have Gh:=qI hk2
 clear hw2 hk2
 go_wp2_with fail
 go_ret
 exact⟨⟨_,rfl,Gi.o⟩,Gm.o.trans Gh.o (fun i hi=>by simp at hi;subst hi;exact .inr (Nat.le_succ _))⟩
theorem Y2 {n:Nat}{v:V n}{S:Nat→Prop}{w:World}{cs:List Value}(h:Rep n S w cs v) (hs:yk n v) (hn:n≤100) (ht:ql w) :
  Calls Tryz.prog 55 #[.agg cs.toArray] w fun e w'=>e = .returned (.int .i64 (yC n v))∧zb [] w w':=by
 obtain⟨kd,nm,st,a1,b1,rfl⟩:=h.five
 obtain⟨p1,i1,d1,p2,i2,d2,rfl,rfl⟩:=h.sl
 obtain⟨W0,Gg⟩:∃ W0,Hid (W0=w.alloc (.cells #[.int .i64 kd,.int .i64 nm,.string st,.slice p1 i1 d1,.slice p2 i2 d2] 25)):=⟨_,qI rfl⟩
 have Gd:Hid (zb [] w W0):=qI (by rw [Gg.o];exact (zb.refl [] w).alloc _)
 have CL:=qI (look_any (h.kept0 Gd.o) hs hn (ht.kept0 Gd.o))
 have hct:=hs.1
 have hdt:zy n v≤100:=Nat.le_trans (kb n v) hn
 have HC:Hid (yC n v=if 12 < zy n v then 41 else if 4096 < zt n v then 42 else if zo n v then 0 else 40):=qI rfl
 clear h hs ht
 revert CL hct hdt HC
 generalize zy n v=D
 generalize zt n v=C
 generalize zo n v=R
 generalize yC n v=K
 intro CL hct hdt HC
 by_cases h1:12 < D
 ·have h1I:(12:Int) < D:=by omega
  have HF:Hid (K=41):=qI (by rw [HC.o,if_pos h1])
  go_enter func55,ntmps55
  go_wp2_with fail
  rw [← Gg.o]
  refine CL.o.mono ?_
  rintro e w2 ⟨⟨b,rfl,hw2⟩,hk2⟩
  have c0:=za (o:=0) (v:=.int .i64 D) hw2 rfl
  have c1:=za (o:=1) (v:=.int .i64 C) hw2 rfl
  have c2:=za (o:=2) (v:=.bool (!R)) hw2 rfl
  have Gh:=qI (Gd.o.then hk2)
  clear hw2 hk2
  go_wp2_with fail
  go_ret
  rw [HF.o]
  exact⟨rfl,Gh.o⟩
 have h1I:¬ (12:Int) < D:=by omega
 by_cases h2:4096 < C
 ·have h2I:(4096:Int) < C:=by omega
  have HF:Hid (K=42):=qI (by rw [HC.o,if_neg h1,if_pos h2])
  go_enter func55,ntmps55
  go_wp2_with fail
  rw [← Gg.o]
  refine CL.o.mono ?_
  rintro e w2 ⟨⟨b,rfl,hw2⟩,hk2⟩
  have c0:=za (o:=0) (v:=.int .i64 D) hw2 rfl
  have c1:=za (o:=1) (v:=.int .i64 C) hw2 rfl
  have c2:=za (o:=2) (v:=.bool (!R)) hw2 rfl
  have Gh:=qI (Gd.o.then hk2)
  clear hw2 hk2
  go_wp2_with fail
  go_ret
  rw [HF.o]
  exact⟨rfl,Gh.o⟩
 have h2I:¬ (4096:Int) < C:=by omega
 cases R with
 | true=>
  have HF:Hid (K=0):=qI (by rw [HC.o,if_neg h1,if_neg h2,if_pos rfl])
  clear h1 h2
  go_enter func55,ntmps55
  go_wp2_with fail
  rw [← Gg.o]
  refine CL.o.mono ?_
  rintro e w2 ⟨⟨b,rfl,hw2⟩,hk2⟩
  have c0:=za (o:=0) (v:=.int .i64 D) hw2 rfl
  have c1:=za (o:=1) (v:=.int .i64 C) hw2 rfl
  have c2:=za (o:=2) (v:=.bool false) hw2 rfl
  have Gh:=qI (Gd.o.then hk2)
  clear hw2 hk2
  go_wp2_with fail
  go_ret
  rw [HF.o]
  exact⟨rfl,Gh.o⟩
 | false=>
  have HF:Hid (K=40):=qI (by rw [HC.o,if_neg h1,if_neg h2,if_neg (by simp)])
  clear h1 h2
  go_enter func55,ntmps55
  go_wp2_with fail
  rw [← Gg.o]
  refine CL.o.mono ?_
  rintro e w2 ⟨⟨b,rfl,hw2⟩,hk2⟩
  have c0:=za (o:=0) (v:=.int .i64 D) hw2 rfl
  have c1:=za (o:=1) (v:=.int .i64 C) hw2 rfl
  have c2:=za (o:=2) (v:=.bool true) hw2 rfl
  have Gh:=qI (Gd.o.then hk2)
  clear hw2 hk2
  go_wp2_with fail
  go_ret
  rw [HF.o]
  exact⟨rfl,Gh.o⟩
def set5 (w:World) (r:Nat) (b0 b1 b2 b3 b4:Value):World:=((((w.setCell ⟨r,0,none⟩ b0).setCell ⟨r,1,none⟩ b1).setCell ⟨r,2,none⟩ b2).setCell ⟨r,3,none⟩ b3).setCell ⟨r,4,none⟩ b4
theorem set5_facts {w WF:World}{r T:Nat}{a0 a1 a2 a3 a4 b0 b1 b2 b3 b4:Value}(hb:w.heap[r]? = some (.cells #[a0,a1,a2,a3,a4] T (0,0))) (e:WF=set5 w r b0 b1 b2 b3 b4) :
  zb [r] w WF∧WF.heap[r]? = some (.cells #[b0,b1,b2,b3,b4] T (0,0)):=by
 subst e
 refine⟨?_,ze (i:=4) (ze (i:=3) (ze (i:=2) (ze (i:=1) (ze (i:=0) hb rfl) rfl) rfl) rfl) rfl⟩
 exact (((((zb.refl [r] w).setCell (p:=⟨r,0,none⟩) (.inl (by simp)) _).setCell (p:=⟨r,1,none⟩) (.inl (by simp)) _).setCell (p:=⟨r,2,none⟩) (.inl (by simp)) _).setCell (p:=⟨r,3,none⟩) (.inl (by simp)) _).setCell (p:=⟨r,4,none⟩) (.inl (by simp)) _
theorem kP.move:∀ {n:Nat}{B B':Nat}{X:List Nat}{w w':World}{cs:List Value}{v:V n},kP n B w cs v→zb X w w'→(∀ g,g ∈ X→g < B)→B'≤B→kP n B' w' cs v
 | 0,_,_,_,_,_,_,_,h,_,_,_=>h.elim
 | n + 1,B,B',X,w,w',cs,v,h,k,hX,hB=>by
  obtain⟨vl,vm,lcs,mcs,h1,h2,h3,h4,h5,h6,h7⟩:=h
  refine⟨vl,vm,lcs,mcs,h1,?_,h3.mono fun _ _ _ r=>r.move k (fun g _ q=>⟨fun hx=>by have:=hX g hx;omega,by omega,q.2⟩),?_,h5.mono fun _ _ _ r=>⟨r.1,r.2.move k (fun g _ q=>⟨fun hx=>by have:=hX g hx;omega,by omega,q.2⟩)⟩,h6,h7⟩
  ·exact qj (zk h2 k (fun g hg hx=>by have:=(h2.lt g hg).1;have:=hX g hx;omega)) (fun g hg=>by have:=(h2.lt g hg).1;omega)
  ·exact qj (zk h4 k (fun g hg hx=>by have:=(h4.lt g hg).1;have:=hX g hx;omega)) (fun g hg=>by have:=(h4.lt g hg).1;omega)
theorem Qg {n:Nat}{v:V n}(h:yC n v=0):zo n v=true:=(qZ.1 h).2.2
theorem Sorted_any {n:Nat}{v:V n}{S:Nat→Prop}{w:World}{cs:List Value}(h:Rep n S w cs v) (hs:yk n v) (hn:n≤100) (ht:ql w) (hc:yC n v=0) :
  Calls Tryz.prog 150 #[.agg cs.toArray] w fun e w'=>(∃ cs':List Value,e = .returned (.agg cs'.toArray)∧kP n w.heap.size w' cs' (zz n v))∧zb [] w w':=by
 obtain⟨kd,nm,st,a,ca,ea,b,cb,eb,rfl⟩:=h.conv
 obtain⟨W0,Gg⟩:∃ W0,Hid (W0=(w.alloc (.cells #[.int .i64 kd,.int .i64 nm,.string st,.slice a ca ea,.slice b cb eb] 25)).alloc (.cells #[.int .i64 0,.int .i64 0,.string ⟨#[]⟩,.slice none 0 0,.slice none 0 0] 25)):=⟨_,qI rfl⟩
 have Jl:Hid (W0.heap.size=w.heap.size + 2):=qI (by rw [Gg.o];simp)
 have Gd:Hid (zb [] w W0):=qI (by rw [Gg.o];exact ((zb.refl [] w).alloc _).alloc _)
 have Jk:Hid (qf W0 w.heap.size kd nm st (.slice a ca ea) (.slice b cb eb)):=qI (by
  rw [Gg.o]
  have h1:=yQ w kd nm st (.slice a ca ea) (.slice b cb eb) 25
  exact h1.kept ((zb.refl [] _).alloc _) (by simp))
 have Gc:Hid (W0.heap[w.heap.size + 1]? = some (.cells #[.int .i64 0,.int .i64 0,.string ⟨#[]⟩,.slice none 0 0,.slice none 0 0] 25 (0,0))):=qI (by
  rw [Gg.o];exact zd (by simp))
 have CC:Hid (Calls Tryz.prog 55 #[.agg #[.int .i64 kd,.int .i64 nm,.string st,.slice a ca ea,.slice b cb eb]] W0 _):=qI (Y2 (h.kept0 Gd.o) hs hn (ht.kept0 Gd.o))
 have CS:=qI (fun (w1:World) (k:zb [] W0 w1)=>sorted_any n v ((h.kept0 Gd.o).kept0 k) hs (Qg hc))
 have Jw:=qI hc
 clear h hs ht hc
 obtain⟨c0,c1,c2,c3,c4⟩:=Jk.o
 rw [Gg.o] at c0 c1 c2 c3 c4
 go_enter func150,ntmps150
 go_wp2_with fail
 rw [← Gg.o]
 refine CC.o.mono ?_
 rintro e w1 ⟨rfl,hk1⟩
 have Gm:=qI hk1
 clear c0 c1 c2 c3 c4
 rw [Jw.o]
 obtain⟨c0,c1,c2,c3,c4⟩:=Jk.o.kept hk1 (by simp)
 clear hk1
 go_wp2_with fail
 refine (CS.o _ Gm.o).mono ?_
 rintro e w5 ⟨⟨cs',rfl,hown⟩,hk5⟩
 obtain⟨k5,m5,s5,p5,i5,e5,q5,j5,d5,rfl⟩:=hown.rep.conv
 have Jm:=qI hown
 have Js:=qI (Gm.o.then hk5)
 have hbr:=Js.o.heap Gc.o (by simp)
 have Jx:=qI hbr
 have r0:=za (o:=0) (v:=.int .i64 0) hbr rfl
 have r1:=za (o:=1) (v:=.int .i64 0) hbr rfl
 have r2:=za (o:=2) (v:=.string ⟨#[]⟩) hbr rfl
 have r3:=za (o:=3) (v:=.slice none 0 0) hbr rfl
 have r4:=za (o:=4) (v:=.slice none 0 0) hbr rfl
 have f0:=zh (o:=0) hbr
 have f1:=zh (o:=1) hbr
 have f2:=zh (o:=2) hbr
 have f3:=zh (o:=3) hbr
 have f4:=zh (o:=4) hbr
 have Jn:Hid (w.heap.size + 2≤w1.heap.size):=qI (by have:=Gm.o.size;have:=Jl.o;omega)
 clear hbr hown hk5 c0 c1 c2 c3 c4
 go_wp2_with fail
 obtain⟨WF,e⟩:∃ WF,WF=set5 w5 (w.heap.size + 1) (.int .i64 k5) (.int .i64 m5) (.string s5) (.slice p5 i5 e5) (.slice q5 j5 d5):=⟨_,rfl⟩
 obtain⟨KF,hbf⟩:=set5_facts Jx.o e
 unfold set5 at e
 rw [← e]
 have x0:=za (o:=0) (v:=.int .i64 k5) hbf rfl
 have x1:=za (o:=1) (v:=.int .i64 m5) hbf rfl
 have x2:=za (o:=2) (v:=.string s5) hbf rfl
 have x3:=za (o:=3) (v:=.slice p5 i5 e5) hbf rfl
 have x4:=za (o:=4) (v:=.slice q5 j5 d5) hbf rfl
 have hz:=Jn.o
 exact bodyPost_ret (v:=.agg #[.int .i64 k5,.int .i64 m5,.string s5,.slice p5 i5 e5,.slice q5 j5 d5]) (by simp [results,results150,go_sem,x0,x1,x2,x3,x4]) rfl ⟨⟨_,rfl,Jm.o.move KF (fun g hg=>by simp at hg;omega) (by omega)⟩,(Gd.o.then Js.o).trans KF (fun i hi=>by simp at hi;exact .inr (by omega))⟩
end Go.Proofs.YtibnfbglanpoiaaGreatDoor

/- Parts of one proof, merged: XKI. -/
import Derived.Test.YtibnfbglanpoiaaGreatDoorQeI
set_option linter.all false
set_option maxHeartbeats 12800000
set_option maxRecDepth 100000
namespace Go.Proofs.YtibnfbglanpoiaaGreatDoor
open Go.Proofs.Tryz
open Go.RowKit
def xF {α:Type}(v:VS α) (ok:Bool) (m:Int) (s:ByteArray) (l k:Nat):Prop:=zx v=(ok&&decide (v.num=m)&&decide (v.s=s)&&decide (v.l.length=l)&&decide (v.m.length=k))
theorem str_beq (a b:ByteArray):(a.toList == b.toList)=decide (a=b):=by
 by_cases h:a=b
 ·rw [(ky h).1,decide_eq_true h]
 ·rw [(ke h).1,decide_eq_false h]
theorem nat_beq (a b:Nat):((a:Int) == (b:Int))=decide (a=b):=by
 by_cases h:a=b
 ·rw [(nat_eq h).1,decide_eq_true h]
 ·rw [(QI h).1,decide_eq_false h]
theorem plain_1 {α:Type}{v:VS α}(h:v.kind=1):xF v true 0 ⟨#[]⟩ 0 0:=by
 unfold xF zx bi;simp only [qL];rw [h];simp
theorem plain_2 {α:Type}{v:VS α}(h:v.kind=2):xF v (decide (v.num=0∨v.num=1)) v.num ⟨#[]⟩ 0 0:=by
 unfold xF zx bi;simp only [qL];rw [h];simp
theorem plain_3 {α:Type}{v:VS α}(h:v.kind=3):xF v (decide (-9007199254740991≤v.num∧v.num≤9007199254740991)) v.num ⟨#[]⟩ 0 0:=by
 unfold xF zx bi;simp only [qL];rw [h];simp
theorem plain_4 {α:Type}{v:VS α}(h:v.kind=4):xF v (zQ v.s) 0 v.s 0 0:=by
 unfold xF zx bi;simp only [qL];rw [h];simp [Bool.and_assoc]
theorem plain_5 {α:Type}{v:VS α}(h:v.kind=5):xF v true 0 ⟨#[]⟩ v.l.length 0:=by
 unfold xF zx bi;simp only [qL];rw [h];simp
theorem plain_6 {α:Type}{v:VS α}(h:v.kind=6):xF v (xA v.m) 0 ⟨#[]⟩ 0 v.m.length:=by
 unfold xF zx bi;simp only [qL];rw [h];simp
theorem plain_else {α:Type}{v:VS α}(h:¬ (v.kind=1∨v.kind=2∨v.kind=3∨v.kind=4∨v.kind=5∨v.kind=6)):zx v=false:=by
 unfold zx
 rw [if_neg Ws,if_neg Ws,if_neg Ws,if_neg Ws,if_neg Ws,if_neg Ws]
theorem plain_any {n:Nat}{v:VS (V n)}{S:Nat→Prop}{w:World}{cs:List Value}(h:Rep (n+1) S w cs v) (hs:yA (n+1) v) (ht:qC w) :
  CL w 170 #[.agg cs.toArray] (.bool (zx v)):=by
 have Gm:=qI h
 have Gn:=qI hs
 have HT:=qI ht
 obtain⟨vl,vm,lcs,mcs,h⟩:=h
 obtain⟨a,c,b,e,rfl,rfl,rfl⟩:=h.forms
 have H:=qI h
 obtain⟨W1,Gh⟩:∃ W1,Hid (W1=(w.alloc (.cells #[.int .i64 v.kind,.int .i64 v.num,.string v.s,.slice a v.l.length c,.slice b v.m.length e] 25)).alloc (.cells #[.int .i64 v.kind,.int .i64 0,.string ⟨#[]⟩,.slice none 0 0,.slice none 0 0] 25)):=⟨_,qI rfl⟩
 have HB:Hid (qq W1 w.heap.size v.kind v.num v.s (.slice a v.l.length c) (.slice b v.m.length e)):=qI (by rw [Gh.o];exact (xr w v.kind v.num v.s (.slice a v.l.length c) (.slice b v.m.length e) 25).kept0 (Wd.alloc _))
 have Gg:Hid (zb [] w W1):=qI (kA2 Gh.o)
 have Ge:Hid (W1.heap[w.heap.size+1]? = some (.cells (vH v.kind 0 ⟨#[]⟩ (.slice none 0 0) (.slice none 0 0)) 25 (0,0))):=qI (by rw [Gh.o];exact zd Wz)
 have hsv:(v.s.size:Int)≤400000:=by have:=hs.2;have e:yl (n+1) v=v.s.size+v.keyBytes+(v.kids.map (yl n)).sum:=rfl;omega
 have Gl:Hid (∀ p,p∈v.m→p.1.size≤400000):=qI fun p hp=>Nat.le_trans (key_le hp) hs.2
 have HM:Hid (v.m.length≤20000):=qI (by have:=hs.few;omega)
 have Gi:Hid (∀ {w'},zb [] w w'→yY (Rep n S w') S w' _ v _ _ lcs mcs):=qI fun k=>{ cells:=h.cells,slcl:=h.slcl.kept0 k,alll:=h.alll.mono fun _ _ _ r=>r.kept0 k,slcm:=h.slcm.kept0 k,allm:=h.allm.mono fun _ _ _ r=>⟨r.1,r.2.kept0 k⟩,inl:=h.inl,inm:=h.inm,wfk:=h.wfk,wfn:=h.wfn }
 obtain⟨c0,c1,c2,c3,c4⟩:=HB.o
 rw [Gh.o] at c0 c1 c2 c3 c4
 clear h hs ht
 go_enter func170,ntmps170
 go_upto_block 0 with fail
 rw [← Gh.o]
 rw [← Gh.o] at c0 c1 c2 c3 c4
 go_cut [4] from 10 to 58 (fun q wr=>∃ (ok:Bool) (m:Int) (s:ByteArray) (l k:Nat) (al am:Option Addr) (cl cm:Nat),q = .bool ok∧zb [w.heap.size+1] W1 wr∧qq wr (w.heap.size+1) v.kind m s (.slice al l cl) (.slice am k cm)∧Hid (xF v ok m s l k))
 case first=>
  by_cases k1:v.kind=1
  ·have f1:=(xH k1).1
   have Gc:=qI (plain_1 k1)
   clear k1
   go_wp2_with fail
   go_meet
   exact⟨true,0,⟨#[]⟩,0,0,_,_,_,_,rfl,Wd,⟨za Ge.o rfl,za Ge.o rfl,za Ge.o rfl,za Ge.o rfl,za Ge.o rfl⟩,Gc⟩
  have f1:=(yF k1).1
  by_cases k2:v.kind=2
  ·have f2:=(xH k2).1
   have Gc:=qI (plain_2 k2)
   by_cases n0:v.num=0
   ·have g1:=(xH n0).1
    have Gc:Hid (xF v true v.num ⟨#[]⟩ 0 0):=qI (by have:=Gc.o;rw [decide_eq_true (.inl n0)] at this;exact this)
    clear k1 k2 n0
    go_wp2_with fail
    refine zv (n:=13) (fun w':World=>w'.cell? ⟨w.heap.size,1,none⟩=some (.int .i64 v.num)) 12 Wr Wr ?_
    change zX _ _ _ _ _ _ _ _ _ W1.drew
    have hSS:(fun w':World=>w'.cell? ⟨w.heap.size,1,none⟩=some (.int .i64 v.num)) W1.drew:=c1
    have hb2:W1.drew.heap[w.heap.size+1]? = some (.cells (vH v.kind 0 ⟨#[]⟩ (.slice none 0 0) (.slice none 0 0)) 25 (0,0)):=Ge.o
    have Gb:Hid (zb [w.heap.size+1] W1 W1.drew):=qI Wd.drew
    have Gd:Hid (zb [] w W1.drew):=qI Gg.o.drew
    clear c0 c1 c2 c3 c4
    revert hSS hb2 Gb Gd
    generalize W1.drew=W2
    intro hSS hb2 Gb Gd
    refine zL ?_
    intro O R hO hR
    have hQp:jC R:=by subst hR;exact fun _ _ _ _ _ h=>h
    refine qT 0 ?_ hO rfl rfl Wr hQp (fun w hSw=>?_) hSS ?_
    rotate_left
    ·exact zi
    try simp only [zA,zN,zB,zC,zD]
    refine qT 1 ?_ hO rfl rfl Wr hQp (fun w hSw=>?_) hSS ?_
    rotate_left
    ·exact zi
    try simp only [zA,zN,zB,zC,zD]
    refine qT 2 ?_ hO rfl rfl Wr hQp (fun w hSw=>?_) hSS ?_
    rotate_left
    ·exact zi
    try simp only [zA,zN,zB,zC,zD]
    refine qT 3 ?_ hO rfl rfl Wr hQp (fun w hSw=>?_) hSS ?_
    rotate_left
    ·exact zi
    try simp only [zA,zN,zB,zC,zD]
    refine qT 4 ?_ hO rfl rfl Wr hQp (fun w hSw=>?_) hSS ?_
    rotate_left
    ·exact zi
    try simp only [zA,zN,zB,zC,zD]
    refine qT 5 ?_ hO rfl rfl Wr hQp (fun w hSw=>?_) hSS ?_
    rotate_left
    ·exact zi
    try simp only [zA,zN,zB,zC,zD]
    refine qt (i:=6) (v:=undef) hO rfl rfl Wr Wr Wr Wr hQp (Or.inr ⟨Wr,rfl⟩) hSS ?_
    try simp only [zA,zN,zB,zC,zD]
    refine qt (i:=7) (v:=undef) hO rfl rfl Wr Wr Wr Wr hQp (Or.inr ⟨Wr,rfl⟩) hSS ?_
    try simp only [zA,zN,zB,zC,zD]
    refine qt (i:=8) (v:=undef) hO rfl rfl Wr Wr Wr Wr hQp (Or.inr ⟨Wr,rfl⟩) hSS ?_
    try simp only [zA,zN,zB,zC,zD]
    refine qT 9 ?_ hO rfl rfl Wr hQp (fun w hSw=>?_) hSS ?_
    rotate_left
    ·exact zi
    try simp only [zA,zN,zB,zC,zD]
    refine qT 10 ?_ hO rfl rfl Wr hQp (fun w hSw=>?_) hSS ?_
    rotate_left
    ·exact zi
    try simp only [zA,zN,zB,zC,zD]
    have hc2:=za (o:=1) hb2 rfl
    have hf2:=zh (o:=1) hb2
    refine qO 11 hO rfl Wr (fun K hK=>?_)
    go_simp
    have KS:=(zb.refl [w.heap.size+1] W2).setCell (p:=⟨w.heap.size+1,1,none⟩) (.inl Wz) (.int .i64 v.num)
    have hS2:(fun w':World=>w'.cell? ⟨w.heap.size,1,none⟩=some (.int .i64 v.num)) (W2.setCell ⟨w.heap.size+1,1,none⟩ (.int .i64 v.num)):=KS.cell hSS Wz
    have hb3:(W2.setCell ⟨w.heap.size+1,1,none⟩ (.int .i64 v.num)).heap[w.heap.size+1]? = some (.cells #[.int .i64 v.kind,.int .i64 v.num,.string ⟨#[]⟩,.slice none 0 0,.slice none 0 0] 25 (0,0)):=zg hb2 rfl
    have Ga:=qI hb3
    have Gf:=qI (Gb.o.trans' KS)
    refine hK _ _ (.inr hS2) ?_
    clear hK K
    try simp only [zA,zN,zB,zC,zD]
    clear hSS hc2 hf2 hb2 hb3 KS
    have hSS:=hS2
    clear hS2
    refine qO 12 hO rfl Wr (fun K hK=>?_)
    go_simp
    refine hK _ _ (.inl rfl) ?_
    clear hK K
    try simp only [zA,zN,zB,zC,zD]
    refine zF hO Wr ?_ _
    subst hR
    try clear hQp hO O
    go_wp2_with fail
    go_meet
    exact⟨true,v.num,⟨#[]⟩,0,0,_,_,_,_,rfl,Gf.o,⟨za Ga.o rfl,za Ga.o rfl,za Ga.o rfl,za Ga.o rfl,za Ga.o rfl⟩,Gc⟩
   have g1:=(yF n0).1
   by_cases n1:v.num=1
   ·have g2:=(xH n1).1
    have Gc:Hid (xF v true v.num ⟨#[]⟩ 0 0):=qI (by have:=Gc.o;rw [decide_eq_true (.inr n1)] at this;exact this)
    clear k1 k2 n0 n1
    go_wp2_with fail
    refine zv (n:=13) (fun w':World=>w'.cell? ⟨w.heap.size,1,none⟩=some (.int .i64 v.num)) 12 Wr Wr ?_
    change zX _ _ _ _ _ _ _ _ _ W1.drew
    have hSS:(fun w':World=>w'.cell? ⟨w.heap.size,1,none⟩=some (.int .i64 v.num)) W1.drew:=c1
    have hb2:W1.drew.heap[w.heap.size+1]? = some (.cells (vH v.kind 0 ⟨#[]⟩ (.slice none 0 0) (.slice none 0 0)) 25 (0,0)):=Ge.o
    have Gb:Hid (zb [w.heap.size+1] W1 W1.drew):=qI Wd.drew
    have Gd:Hid (zb [] w W1.drew):=qI Gg.o.drew
    clear c0 c1 c2 c3 c4
    revert hSS hb2 Gb Gd
    generalize W1.drew=W2
    intro hSS hb2 Gb Gd
    refine zL ?_
    intro O R hO hR
    have hQp:jC R:=by subst hR;exact fun _ _ _ _ _ h=>h
    refine qT 0 ?_ hO rfl rfl Wr hQp (fun w hSw=>?_) hSS ?_
    rotate_left
    ·exact zi
    try simp only [zA,zN,zB,zC,zD]
    refine qT 1 ?_ hO rfl rfl Wr hQp (fun w hSw=>?_) hSS ?_
    rotate_left
    ·exact zi
    try simp only [zA,zN,zB,zC,zD]
    refine qT 2 ?_ hO rfl rfl Wr hQp (fun w hSw=>?_) hSS ?_
    rotate_left
    ·exact zi
    try simp only [zA,zN,zB,zC,zD]
    refine qT 3 ?_ hO rfl rfl Wr hQp (fun w hSw=>?_) hSS ?_
    rotate_left
    ·exact zi
    try simp only [zA,zN,zB,zC,zD]
    refine qT 4 ?_ hO rfl rfl Wr hQp (fun w hSw=>?_) hSS ?_
    rotate_left
    ·exact zi
    try simp only [zA,zN,zB,zC,zD]
    refine qT 5 ?_ hO rfl rfl Wr hQp (fun w hSw=>?_) hSS ?_
    rotate_left
    ·exact zi
    try simp only [zA,zN,zB,zC,zD]
    refine qT 6 ?_ hO rfl rfl Wr hQp (fun w hSw=>?_) hSS ?_
    rotate_left
    ·exact zi
    try simp only [zA,zN,zB,zC,zD]
    refine qT 7 ?_ hO rfl rfl Wr hQp (fun w hSw=>?_) hSS ?_
    rotate_left
    ·exact zi
    try simp only [zA,zN,zB,zC,zD]
    refine qT 8 ?_ hO rfl rfl Wr hQp (fun w hSw=>?_) hSS ?_
    rotate_left
    ·exact zi
    try simp only [zA,zN,zB,zC,zD]
    refine qT 9 ?_ hO rfl rfl Wr hQp (fun w hSw=>?_) hSS ?_
    rotate_left
    ·exact zi
    try simp only [zA,zN,zB,zC,zD]
    refine qT 10 ?_ hO rfl rfl Wr hQp (fun w hSw=>?_) hSS ?_
    rotate_left
    ·exact zi
    try simp only [zA,zN,zB,zC,zD]
    have hc2:=za (o:=1) hb2 rfl
    have hf2:=zh (o:=1) hb2
    refine qO 11 hO rfl Wr (fun K hK=>?_)
    go_simp
    have KS:=(zb.refl [w.heap.size+1] W2).setCell (p:=⟨w.heap.size+1,1,none⟩) (.inl Wz) (.int .i64 v.num)
    have hS2:(fun w':World=>w'.cell? ⟨w.heap.size,1,none⟩=some (.int .i64 v.num)) (W2.setCell ⟨w.heap.size+1,1,none⟩ (.int .i64 v.num)):=KS.cell hSS Wz
    have hb3:(W2.setCell ⟨w.heap.size+1,1,none⟩ (.int .i64 v.num)).heap[w.heap.size+1]? = some (.cells #[.int .i64 v.kind,.int .i64 v.num,.string ⟨#[]⟩,.slice none 0 0,.slice none 0 0] 25 (0,0)):=zg hb2 rfl
    have Ga:=qI hb3
    have Gf:=qI (Gb.o.trans' KS)
    refine hK _ _ (.inr hS2) ?_
    clear hK K
    try simp only [zA,zN,zB,zC,zD]
    clear hSS hc2 hf2 hb2 hb3 KS
    have hSS:=hS2
    clear hS2
    refine qO 12 hO rfl Wr (fun K hK=>?_)
    go_simp
    refine hK _ _ (.inl rfl) ?_
    clear hK K
    try simp only [zA,zN,zB,zC,zD]
    refine zF hO Wr ?_ _
    subst hR
    try clear hQp hO O
    go_wp2_with fail
    go_meet
    exact⟨true,v.num,⟨#[]⟩,0,0,_,_,_,_,rfl,Gf.o,⟨za Ga.o rfl,za Ga.o rfl,za Ga.o rfl,za Ga.o rfl,za Ga.o rfl⟩,Gc⟩
   ·have g2:=(yF n1).1
    have Gc:Hid (xF v false v.num ⟨#[]⟩ 0 0):=qI (by have:=Gc.o;rw [decide_eq_false (by rintro (q | q);exact n0 q;exact n1 q)] at this;exact this)
    clear k1 k2 n0 n1
    go_wp2_with fail
    refine zv (n:=13) (fun w':World=>w'.cell? ⟨w.heap.size,1,none⟩=some (.int .i64 v.num)) 12 Wr Wr ?_
    change zX _ _ _ _ _ _ _ _ _ W1.drew
    have hSS:(fun w':World=>w'.cell? ⟨w.heap.size,1,none⟩=some (.int .i64 v.num)) W1.drew:=c1
    have hb2:W1.drew.heap[w.heap.size+1]? = some (.cells (vH v.kind 0 ⟨#[]⟩ (.slice none 0 0) (.slice none 0 0)) 25 (0,0)):=Ge.o
    have Gb:Hid (zb [w.heap.size+1] W1 W1.drew):=qI Wd.drew
    have Gd:Hid (zb [] w W1.drew):=qI Gg.o.drew
    clear c0 c1 c2 c3 c4
    revert hSS hb2 Gb Gd
    generalize W1.drew=W2
    intro hSS hb2 Gb Gd
    refine zL ?_
    intro O R hO hR
    have hQp:jC R:=by subst hR;exact fun _ _ _ _ _ h=>h
    refine qT 0 ?_ hO rfl rfl Wr hQp (fun w hSw=>?_) hSS ?_
    rotate_left
    ·exact zi
    try simp only [zA,zN,zB,zC,zD]
    refine qT 1 ?_ hO rfl rfl Wr hQp (fun w hSw=>?_) hSS ?_
    rotate_left
    ·exact zi
    try simp only [zA,zN,zB,zC,zD]
    refine qT 2 ?_ hO rfl rfl Wr hQp (fun w hSw=>?_) hSS ?_
    rotate_left
    ·exact zi
    try simp only [zA,zN,zB,zC,zD]
    refine qT 3 ?_ hO rfl rfl Wr hQp (fun w hSw=>?_) hSS ?_
    rotate_left
    ·exact zi
    try simp only [zA,zN,zB,zC,zD]
    refine qT 4 ?_ hO rfl rfl Wr hQp (fun w hSw=>?_) hSS ?_
    rotate_left
    ·exact zi
    try simp only [zA,zN,zB,zC,zD]
    refine qT 5 ?_ hO rfl rfl Wr hQp (fun w hSw=>?_) hSS ?_
    rotate_left
    ·exact zi
    try simp only [zA,zN,zB,zC,zD]
    refine qT 6 ?_ hO rfl rfl Wr hQp (fun w hSw=>?_) hSS ?_
    rotate_left
    ·exact zi
    try simp only [zA,zN,zB,zC,zD]
    refine qT 7 ?_ hO rfl rfl Wr hQp (fun w hSw=>?_) hSS ?_
    rotate_left
    ·exact zi
    try simp only [zA,zN,zB,zC,zD]
    refine qT 8 ?_ hO rfl rfl Wr hQp (fun w hSw=>?_) hSS ?_
    rotate_left
    ·exact zi
    try simp only [zA,zN,zB,zC,zD]
    refine qT 9 ?_ hO rfl rfl Wr hQp (fun w hSw=>?_) hSS ?_
    rotate_left
    ·exact zi
    try simp only [zA,zN,zB,zC,zD]
    refine qT 10 ?_ hO rfl rfl Wr hQp (fun w hSw=>?_) hSS ?_
    rotate_left
    ·exact zi
    try simp only [zA,zN,zB,zC,zD]
    have hc2:=za (o:=1) hb2 rfl
    have hf2:=zh (o:=1) hb2
    refine qO 11 hO rfl Wr (fun K hK=>?_)
    go_simp
    have KS:=(zb.refl [w.heap.size+1] W2).setCell (p:=⟨w.heap.size+1,1,none⟩) (.inl Wz) (.int .i64 v.num)
    have hS2:(fun w':World=>w'.cell? ⟨w.heap.size,1,none⟩=some (.int .i64 v.num)) (W2.setCell ⟨w.heap.size+1,1,none⟩ (.int .i64 v.num)):=KS.cell hSS Wz
    have hb3:(W2.setCell ⟨w.heap.size+1,1,none⟩ (.int .i64 v.num)).heap[w.heap.size+1]? = some (.cells #[.int .i64 v.kind,.int .i64 v.num,.string ⟨#[]⟩,.slice none 0 0,.slice none 0 0] 25 (0,0)):=zg hb2 rfl
    have Ga:=qI hb3
    have Gf:=qI (Gb.o.trans' KS)
    refine hK _ _ (.inr hS2) ?_
    clear hK K
    try simp only [zA,zN,zB,zC,zD]
    clear hSS hc2 hf2 hb2 hb3 KS
    have hSS:=hS2
    clear hS2
    refine qO 12 hO rfl Wr (fun K hK=>?_)
    go_simp
    refine hK _ _ (.inl rfl) ?_
    clear hK K
    try simp only [zA,zN,zB,zC,zD]
    refine zF hO Wr ?_ _
    subst hR
    try clear hQp hO O
    go_wp2_with fail
    go_meet
    exact⟨false,v.num,⟨#[]⟩,0,0,_,_,_,_,rfl,Gf.o,⟨za Ga.o rfl,za Ga.o rfl,za Ga.o rfl,za Ga.o rfl,za Ga.o rfl⟩,Gc⟩
  have f2:=(yF k2).1
  by_cases k3:v.kind=3
  ·have f3:=(xH k3).1
   have Gc:=qI (plain_3 k3)
   by_cases n0:-9007199254740991≤v.num
   ·by_cases n1:v.num≤9007199254740991
    ·have Gc:Hid (xF v true v.num ⟨#[]⟩ 0 0):=qI (by have:=Gc.o;rw [decide_eq_true ⟨n0,n1⟩] at this;exact this)
     clear k1 k2 k3
     go_wp2_with fail
     refine zv (n:=13) (fun w':World=>w'.cell? ⟨w.heap.size,1,none⟩=some (.int .i64 v.num)) 12 Wr Wr ?_
     change zX _ _ _ _ _ _ _ _ _ W1.drew
     have hSS:(fun w':World=>w'.cell? ⟨w.heap.size,1,none⟩=some (.int .i64 v.num)) W1.drew:=c1
     have hb2:W1.drew.heap[w.heap.size+1]? = some (.cells (vH v.kind 0 ⟨#[]⟩ (.slice none 0 0) (.slice none 0 0)) 25 (0,0)):=Ge.o
     have Gb:Hid (zb [w.heap.size+1] W1 W1.drew):=qI Wd.drew
     have Gd:Hid (zb [] w W1.drew):=qI Gg.o.drew
     clear c0 c1 c2 c3 c4
     revert hSS hb2 Gb Gd
     generalize W1.drew=W2
     intro hSS hb2 Gb Gd
     refine zL ?_
     intro O R hO hR
     have hQp:jC R:=by subst hR;exact fun _ _ _ _ _ h=>h
     refine qT 0 ?_ hO rfl rfl Wr hQp (fun w hSw=>?_) hSS ?_
     rotate_left
     ·exact zi
     try simp only [zA,zN,zB,zC,zD]
     refine qT 1 ?_ hO rfl rfl Wr hQp (fun w hSw=>?_) hSS ?_
     rotate_left
     ·exact zi
     try simp only [zA,zN,zB,zC,zD]
     refine qT 2 ?_ hO rfl rfl Wr hQp (fun w hSw=>?_) hSS ?_
     rotate_left
     ·exact zi
     try simp only [zA,zN,zB,zC,zD]
     refine qT 3 ?_ hO rfl rfl Wr hQp (fun w hSw=>?_) hSS ?_
     rotate_left
     ·exact zi
     try simp only [zA,zN,zB,zC,zD]
     refine qT 4 ?_ hO rfl rfl Wr hQp (fun w hSw=>?_) hSS ?_
     rotate_left
     ·exact zi
     try simp only [zA,zN,zB,zC,zD]
     refine qT 5 ?_ hO rfl rfl Wr hQp (fun w hSw=>?_) hSS ?_
     rotate_left
     ·exact zi
     try simp only [zA,zN,zB,zC,zD]
     refine qT 6 ?_ hO rfl rfl Wr hQp (fun w hSw=>?_) hSS ?_
     rotate_left
     ·exact zi
     try simp only [zA,zN,zB,zC,zD]
     refine qT 7 ?_ hO rfl rfl Wr hQp (fun w hSw=>?_) hSS ?_
     rotate_left
     ·exact zi
     try simp only [zA,zN,zB,zC,zD]
     refine qT 8 ?_ hO rfl rfl Wr hQp (fun w hSw=>?_) hSS ?_
     rotate_left
     ·exact zi
     try simp only [zA,zN,zB,zC,zD]
     refine qT 9 ?_ hO rfl rfl Wr hQp (fun w hSw=>?_) hSS ?_
     rotate_left
     ·exact zi
     try simp only [zA,zN,zB,zC,zD]
     refine qT 10 ?_ hO rfl rfl Wr hQp (fun w hSw=>?_) hSS ?_
     rotate_left
     ·exact zi
     try simp only [zA,zN,zB,zC,zD]
     have hc2:=za (o:=1) hb2 rfl
     have hf2:=zh (o:=1) hb2
     refine qO 11 hO rfl Wr (fun K hK=>?_)
     go_simp
     have KS:=(zb.refl [w.heap.size+1] W2).setCell (p:=⟨w.heap.size+1,1,none⟩) (.inl Wz) (.int .i64 v.num)
     have hS2:(fun w':World=>w'.cell? ⟨w.heap.size,1,none⟩=some (.int .i64 v.num)) (W2.setCell ⟨w.heap.size+1,1,none⟩ (.int .i64 v.num)):=KS.cell hSS Wz
     have hb3:(W2.setCell ⟨w.heap.size+1,1,none⟩ (.int .i64 v.num)).heap[w.heap.size+1]? = some (.cells #[.int .i64 v.kind,.int .i64 v.num,.string ⟨#[]⟩,.slice none 0 0,.slice none 0 0] 25 (0,0)):=zg hb2 rfl
     have Ga:=qI hb3
     have Gf:=qI (Gb.o.trans' KS)
     refine hK _ _ (.inr hS2) ?_
     clear hK K
     try simp only [zA,zN,zB,zC,zD]
     clear hSS hc2 hf2 hb2 hb3 KS
     have hSS:=hS2
     clear hS2
     refine qO 12 hO rfl Wr (fun K hK=>?_)
     go_simp
     refine hK _ _ (.inl rfl) ?_
     clear hK K
     try simp only [zA,zN,zB,zC,zD]
     refine zF hO Wr ?_ _
     subst hR
     try clear hQp hO O
     go_wp2_with fail
     go_meet
     exact⟨true,v.num,⟨#[]⟩,0,0,_,_,_,_,rfl,Gf.o,⟨za Ga.o rfl,za Ga.o rfl,za Ga.o rfl,za Ga.o rfl,za Ga.o rfl⟩,Gc⟩
    ·have Gc:Hid (xF v false v.num ⟨#[]⟩ 0 0):=qI (by have:=Gc.o;rw [decide_eq_false (fun q=>n1 q.2)] at this;exact this)
     have g2:=decide_eq_false n1
     clear k1 k2 k3 n1
     go_wp2_with fail
     refine zv (n:=13) (fun w':World=>w'.cell? ⟨w.heap.size,1,none⟩=some (.int .i64 v.num)) 12 Wr Wr ?_
     change zX _ _ _ _ _ _ _ _ _ W1.drew
     have hSS:(fun w':World=>w'.cell? ⟨w.heap.size,1,none⟩=some (.int .i64 v.num)) W1.drew:=c1
     have hb2:W1.drew.heap[w.heap.size+1]? = some (.cells (vH v.kind 0 ⟨#[]⟩ (.slice none 0 0) (.slice none 0 0)) 25 (0,0)):=Ge.o
     have Gb:Hid (zb [w.heap.size+1] W1 W1.drew):=qI Wd.drew
     have Gd:Hid (zb [] w W1.drew):=qI Gg.o.drew
     clear c0 c1 c2 c3 c4
     revert hSS hb2 Gb Gd
     generalize W1.drew=W2
     intro hSS hb2 Gb Gd
     refine zL ?_
     intro O R hO hR
     have hQp:jC R:=by subst hR;exact fun _ _ _ _ _ h=>h
     refine qT 0 ?_ hO rfl rfl Wr hQp (fun w hSw=>?_) hSS ?_
     rotate_left
     ·exact zi
     try simp only [zA,zN,zB,zC,zD]
     refine qT 1 ?_ hO rfl rfl Wr hQp (fun w hSw=>?_) hSS ?_
     rotate_left
     ·exact zi
     try simp only [zA,zN,zB,zC,zD]
     refine qT 2 ?_ hO rfl rfl Wr hQp (fun w hSw=>?_) hSS ?_
     rotate_left
     ·exact zi
     try simp only [zA,zN,zB,zC,zD]
     refine qT 3 ?_ hO rfl rfl Wr hQp (fun w hSw=>?_) hSS ?_
     rotate_left
     ·exact zi
     try simp only [zA,zN,zB,zC,zD]
     refine qT 4 ?_ hO rfl rfl Wr hQp (fun w hSw=>?_) hSS ?_
     rotate_left
     ·exact zi
     try simp only [zA,zN,zB,zC,zD]
     refine qT 5 ?_ hO rfl rfl Wr hQp (fun w hSw=>?_) hSS ?_
     rotate_left
     ·exact zi
     try simp only [zA,zN,zB,zC,zD]
     refine qT 6 ?_ hO rfl rfl Wr hQp (fun w hSw=>?_) hSS ?_
     rotate_left
     ·exact zi
     try simp only [zA,zN,zB,zC,zD]
     refine qT 7 ?_ hO rfl rfl Wr hQp (fun w hSw=>?_) hSS ?_
     rotate_left
     ·exact zi
     try simp only [zA,zN,zB,zC,zD]
     refine qT 8 ?_ hO rfl rfl Wr hQp (fun w hSw=>?_) hSS ?_
     rotate_left
     ·exact zi
     try simp only [zA,zN,zB,zC,zD]
     refine qT 9 ?_ hO rfl rfl Wr hQp (fun w hSw=>?_) hSS ?_
     rotate_left
     ·exact zi
     try simp only [zA,zN,zB,zC,zD]
     refine qT 10 ?_ hO rfl rfl Wr hQp (fun w hSw=>?_) hSS ?_
     rotate_left
     ·exact zi
     try simp only [zA,zN,zB,zC,zD]
     have hc2:=za (o:=1) hb2 rfl
     have hf2:=zh (o:=1) hb2
     refine qO 11 hO rfl Wr (fun K hK=>?_)
     go_simp
     have KS:=(zb.refl [w.heap.size+1] W2).setCell (p:=⟨w.heap.size+1,1,none⟩) (.inl Wz) (.int .i64 v.num)
     have hS2:(fun w':World=>w'.cell? ⟨w.heap.size,1,none⟩=some (.int .i64 v.num)) (W2.setCell ⟨w.heap.size+1,1,none⟩ (.int .i64 v.num)):=KS.cell hSS Wz
     have hb3:(W2.setCell ⟨w.heap.size+1,1,none⟩ (.int .i64 v.num)).heap[w.heap.size+1]? = some (.cells #[.int .i64 v.kind,.int .i64 v.num,.string ⟨#[]⟩,.slice none 0 0,.slice none 0 0] 25 (0,0)):=zg hb2 rfl
     have Ga:=qI hb3
     have Gf:=qI (Gb.o.trans' KS)
     refine hK _ _ (.inr hS2) ?_
     clear hK K
     try simp only [zA,zN,zB,zC,zD]
     clear hSS hc2 hf2 hb2 hb3 KS
     have hSS:=hS2
     clear hS2
     refine qO 12 hO rfl Wr (fun K hK=>?_)
     go_simp
     refine hK _ _ (.inl rfl) ?_
     clear hK K
     try simp only [zA,zN,zB,zC,zD]
     refine zF hO Wr ?_ _
     subst hR
     try clear hQp hO O
     go_wp2_with fail
     go_meet
     exact⟨false,v.num,⟨#[]⟩,0,0,_,_,_,_,rfl,Gf.o,⟨za Ga.o rfl,za Ga.o rfl,za Ga.o rfl,za Ga.o rfl,za Ga.o rfl⟩,Gc⟩
   ·have Gc:Hid (xF v false v.num ⟨#[]⟩ 0 0):=qI (by have:=Gc.o;rw [decide_eq_false (fun q=>n0 q.1)] at this;exact this)
    have g2:=decide_eq_false n0
    clear k1 k2 k3 n0
    go_wp2_with fail
    refine zv (n:=13) (fun w':World=>w'.cell? ⟨w.heap.size,1,none⟩=some (.int .i64 v.num)) 12 Wr Wr ?_
    change zX _ _ _ _ _ _ _ _ _ W1.drew
    have hSS:(fun w':World=>w'.cell? ⟨w.heap.size,1,none⟩=some (.int .i64 v.num)) W1.drew:=c1
    have hb2:W1.drew.heap[w.heap.size+1]? = some (.cells (vH v.kind 0 ⟨#[]⟩ (.slice none 0 0) (.slice none 0 0)) 25 (0,0)):=Ge.o
    have Gb:Hid (zb [w.heap.size+1] W1 W1.drew):=qI Wd.drew
    have Gd:Hid (zb [] w W1.drew):=qI Gg.o.drew
    clear c0 c1 c2 c3 c4
    revert hSS hb2 Gb Gd
    generalize W1.drew=W2
    intro hSS hb2 Gb Gd
    refine zL ?_
    intro O R hO hR
    have hQp:jC R:=by subst hR;exact fun _ _ _ _ _ h=>h
    refine qT 0 ?_ hO rfl rfl Wr hQp (fun w hSw=>?_) hSS ?_
    rotate_left
    ·exact zi
    try simp only [zA,zN,zB,zC,zD]
    refine qT 1 ?_ hO rfl rfl Wr hQp (fun w hSw=>?_) hSS ?_
    rotate_left
    ·exact zi
    try simp only [zA,zN,zB,zC,zD]
    refine qT 2 ?_ hO rfl rfl Wr hQp (fun w hSw=>?_) hSS ?_
    rotate_left
    ·exact zi
    try simp only [zA,zN,zB,zC,zD]
    refine qT 3 ?_ hO rfl rfl Wr hQp (fun w hSw=>?_) hSS ?_
    rotate_left
    ·exact zi
    try simp only [zA,zN,zB,zC,zD]
    refine qT 4 ?_ hO rfl rfl Wr hQp (fun w hSw=>?_) hSS ?_
    rotate_left
    ·exact zi
    try simp only [zA,zN,zB,zC,zD]
    refine qT 5 ?_ hO rfl rfl Wr hQp (fun w hSw=>?_) hSS ?_
    rotate_left
    ·exact zi
    try simp only [zA,zN,zB,zC,zD]
    refine qt (i:=6) (v:=undef) hO rfl rfl Wr Wr Wr Wr hQp (Or.inr ⟨Wr,rfl⟩) hSS ?_
    try simp only [zA,zN,zB,zC,zD]
    refine qt (i:=7) (v:=undef) hO rfl rfl Wr Wr Wr Wr hQp (Or.inr ⟨Wr,rfl⟩) hSS ?_
    try simp only [zA,zN,zB,zC,zD]
    refine qt (i:=8) (v:=undef) hO rfl rfl Wr Wr Wr Wr hQp (Or.inr ⟨Wr,rfl⟩) hSS ?_
    try simp only [zA,zN,zB,zC,zD]
    refine qT 9 ?_ hO rfl rfl Wr hQp (fun w hSw=>?_) hSS ?_
    rotate_left
    ·exact zi
    try simp only [zA,zN,zB,zC,zD]
    refine qT 10 ?_ hO rfl rfl Wr hQp (fun w hSw=>?_) hSS ?_
    rotate_left
    ·exact zi
    try simp only [zA,zN,zB,zC,zD]
    have hc2:=za (o:=1) hb2 rfl
    have hf2:=zh (o:=1) hb2
    refine qO 11 hO rfl Wr (fun K hK=>?_)
    go_simp
    have KS:=(zb.refl [w.heap.size+1] W2).setCell (p:=⟨w.heap.size+1,1,none⟩) (.inl Wz) (.int .i64 v.num)
    have hS2:(fun w':World=>w'.cell? ⟨w.heap.size,1,none⟩=some (.int .i64 v.num)) (W2.setCell ⟨w.heap.size+1,1,none⟩ (.int .i64 v.num)):=KS.cell hSS Wz
    have hb3:(W2.setCell ⟨w.heap.size+1,1,none⟩ (.int .i64 v.num)).heap[w.heap.size+1]? = some (.cells #[.int .i64 v.kind,.int .i64 v.num,.string ⟨#[]⟩,.slice none 0 0,.slice none 0 0] 25 (0,0)):=zg hb2 rfl
    have Ga:=qI hb3
    have Gf:=qI (Gb.o.trans' KS)
    refine hK _ _ (.inr hS2) ?_
    clear hK K
    try simp only [zA,zN,zB,zC,zD]
    clear hSS hc2 hf2 hb2 hb3 KS
    have hSS:=hS2
    clear hS2
    refine qO 12 hO rfl Wr (fun K hK=>?_)
    go_simp
    refine hK _ _ (.inl rfl) ?_
    clear hK K
    try simp only [zA,zN,zB,zC,zD]
    refine zF hO Wr ?_ _
    subst hR
    try clear hQp hO O
    go_wp2_with fail
    go_meet
    exact⟨false,v.num,⟨#[]⟩,0,0,_,_,_,_,rfl,Gf.o,⟨za Ga.o rfl,za Ga.o rfl,za Ga.o rfl,za Ga.o rfl,za Ga.o rfl⟩,Gc⟩
  have f3:=(yF k3).1
  by_cases k4:v.kind=4
  ·have f4:=(xH k4).1
   have Gc:=qI (plain_4 k4)
   clear k1 k2 k3 k4
   go_wp2_with fail
   refine zv (n:=8) (fun w':World=>w'.cell? ⟨w.heap.size,2,none⟩=some (.string v.s)) 7 Wr Wr ?_
   change zX _ _ _ _ _ _ _ _ _ W1.drew
   have hSS:(fun w':World=>w'.cell? ⟨w.heap.size,2,none⟩=some (.string v.s)) W1.drew:=c2
   have hb2:W1.drew.heap[w.heap.size+1]? = some (.cells (vH v.kind 0 ⟨#[]⟩ (.slice none 0 0) (.slice none 0 0)) 25 (0,0)):=Ge.o
   have Gb:Hid (zb [w.heap.size+1] W1 W1.drew):=qI Wd.drew
   have Gd:Hid (zb [] w W1.drew):=qI Gg.o.drew
   clear c0 c1 c2 c3 c4
   revert hSS hb2 Gb Gd
   generalize W1.drew=W2
   intro hSS hb2 Gb Gd
   refine zL ?_
   intro O R hO hR
   have hQp:jC R:=by subst hR;exact fun _ _ _ _ _ h=>h
   refine qT 0 ?_ hO rfl rfl Wr hQp (fun w hSw=>?_) hSS ?_
   rotate_left
   ·exact zi
   try simp only [zA,zN,zB,zC,zD]
   refine qT 1 ?_ hO rfl rfl Wr hQp (fun w hSw=>?_) hSS ?_
   rotate_left
   ·exact zi
   try simp only [zA,zN,zB,zC,zD]
   refine qT 2 ?_ hO rfl rfl Wr hQp (fun w hSw=>?_) hSS ?_
   rotate_left
   ·exact zi
   try simp only [zA,zN,zB,zC,zD]
   refine qT 3 ?_ hO rfl rfl Wr hQp (fun w hSw=>?_) hSS ?_
   rotate_left
   ·exact zi
   try simp only [zA,zN,zB,zC,zD]
   refine qT 5 ?_ hO rfl rfl Wr hQp (fun w hSw=>?_) hSS ?_
   rotate_left
   ·exact zi
   try simp only [zA,zN,zB,zC,zD]
   refine qO 4 hO rfl Wr (fun K hK=>?_)
   go_simp
   refine Calls.mono (JJ (HT.o.kept0 Gd.o) v.s Ws) ?_;rintro e w3 ⟨rfl,hk3⟩
   have hS2:(fun w':World=>w'.cell? ⟨w.heap.size,2,none⟩=some (.string v.s)) w3:=hk3.cell hSS Wz
   have hb3:=hk3.heap hb2 Wz
   have Gj:=qI (Gb.o.then hk3)
   refine hK _ _ (.inr hS2) ?_
   clear hK K
   try simp only [zA,zN,zB,zC,zD]
   clear hSS hb2 hk3 Gb
   have hSS:=hS2
   have hb2:=hb3
   have Gb:=Gj
   clear hS2 hb3 Gj
   revert hSS hb2 Gb
   generalize w3=W2
   intro hSS hb2 Gb
   have hc2:=za (o:=2) hb2 rfl
   have hf2:=zh (o:=2) hb2
   refine qO 6 hO rfl Wr (fun K hK=>?_)
   go_simp
   have KS:=(zb.refl [w.heap.size+1] W2).setCell (p:=⟨w.heap.size+1,2,none⟩) (.inl Wz) (.string v.s)
   have hS2:(fun w':World=>w'.cell? ⟨w.heap.size,2,none⟩=some (.string v.s)) (W2.setCell ⟨w.heap.size+1,2,none⟩ (.string v.s)):=KS.cell hSS Wz
   have hb3:(W2.setCell ⟨w.heap.size+1,2,none⟩ (.string v.s)).heap[w.heap.size+1]? = some (.cells #[.int .i64 v.kind,.int .i64 0,.string v.s,.slice none 0 0,.slice none 0 0] 25 (0,0)):=zg hb2 rfl
   have Ga:=qI hb3
   have Gf:=qI (Gb.o.trans' KS)
   refine hK _ _ (.inr hS2) ?_
   clear hK K
   try simp only [zA,zN,zB,zC,zD]
   clear hSS hc2 hf2 hb2 hb3 KS
   have hSS:=hS2
   clear hS2
   refine qO 7 hO rfl Wr (fun K hK=>?_)
   go_simp
   refine hK _ _ (.inl rfl) ?_
   clear hK K
   try simp only [zA,zN,zB,zC,zD]
   refine zF hO Wr ?_ _
   subst hR
   try clear hQp hO O
   go_wp2_with fail
   go_meet
   exact⟨zQ v.s,0,v.s,0,0,_,_,_,_,rfl,Gf.o,⟨za Ga.o rfl,za Ga.o rfl,za Ga.o rfl,za Ga.o rfl,za Ga.o rfl⟩,Gc⟩
  have f4:=(yF k4).1
  by_cases k5:v.kind=5
  ·have f5:=(xH k5).1
   have Gc:=qI (plain_5 k5)
   have hc2:=za (o:=3) Ge.o rfl
   have hf2:=zh (o:=3) Ge.o
   clear k1 k2 k3 k4 k5
   go_wp2_with fail
   have hb3:(W1.setCell ⟨w.heap.size+1,3,none⟩ (.slice a v.l.length c)).heap[w.heap.size+1]? = some (.cells #[.int .i64 v.kind,.int .i64 0,.string ⟨#[]⟩,.slice a v.l.length c,.slice none 0 0] 25 (0,0)):=zg Ge.o rfl
   have Ga:=qI hb3
   go_meet
   exact⟨true,0,⟨#[]⟩,v.l.length,0,_,_,_,_,rfl,(zb.refl [w.heap.size+1] W1).setCell (p:=⟨w.heap.size+1,3,none⟩) (.inl Wz) _,⟨za Ga.o rfl,za Ga.o rfl,za Ga.o rfl,za Ga.o rfl,za Ga.o rfl⟩,Gc⟩
  have f5:=(yF k5).1
  by_cases k6:v.kind=6
  ·have f6:=(xH k6).1
   have Gc:=qI (plain_6 k6)
   clear k1 k2 k3 k4 k5 k6
   go_wp2_with fail
   refine zv (n:=8) (fun w':World=>w'.cell? ⟨w.heap.size,4,none⟩=some (.slice b v.m.length e)) 7 Wr Wr ?_
   change zX _ _ _ _ _ _ _ _ _ W1.drew
   have hSS:(fun w':World=>w'.cell? ⟨w.heap.size,4,none⟩=some (.slice b v.m.length e)) W1.drew:=c4
   have hb2:W1.drew.heap[w.heap.size+1]? = some (.cells (vH v.kind 0 ⟨#[]⟩ (.slice none 0 0) (.slice none 0 0)) 25 (0,0)):=Ge.o
   have Gb:Hid (zb [w.heap.size+1] W1 W1.drew):=qI Wd.drew
   have Gd:Hid (zb [] w W1.drew):=qI Gg.o.drew
   clear c0 c1 c2 c3 c4
   revert hSS hb2 Gb Gd
   generalize W1.drew=W2
   intro hSS hb2 Gb Gd
   refine zL ?_
   intro O R hO hR
   have hQp:jC R:=by subst hR;exact fun _ _ _ _ _ h=>h
   refine qT 0 ?_ hO rfl rfl Wr hQp (fun w hSw=>?_) hSS ?_
   rotate_left
   ·exact zi
   try simp only [zA,zN,zB,zC,zD]
   refine qT 1 ?_ hO rfl rfl Wr hQp (fun w hSw=>?_) hSS ?_
   rotate_left
   ·exact zi
   try simp only [zA,zN,zB,zC,zD]
   refine qT 2 ?_ hO rfl rfl Wr hQp (fun w hSw=>?_) hSS ?_
   rotate_left
   ·exact zi
   try simp only [zA,zN,zB,zC,zD]
   refine qT 3 ?_ hO rfl rfl Wr hQp (fun w hSw=>?_) hSS ?_
   rotate_left
   ·exact zi
   try simp only [zA,zN,zB,zC,zD]
   refine qT 5 ?_ hO rfl rfl Wr hQp (fun w hSw=>?_) hSS ?_
   rotate_left
   ·exact zi
   try simp only [zA,zN,zB,zC,zD]
   refine qO 4 hO rfl Wr (fun K hK=>?_)
   go_simp
   refine Calls.mono (keys_any (Gi.o Gd.o) HM.o Gl.o (HT.o.kept0 Gd.o)) ?_;rintro e w3 ⟨rfl,hk3⟩
   have hS2:(fun w':World=>w'.cell? ⟨w.heap.size,4,none⟩=some (.slice b v.m.length e)) w3:=hk3.cell hSS Wz
   have hb3:=hk3.heap hb2 Wz
   have Gj:=qI (Gb.o.then hk3)
   refine hK _ _ (.inr hS2) ?_
   clear hK K
   try simp only [zA,zN,zB,zC,zD]
   clear hSS hb2 hk3 Gb
   have hSS:=hS2
   have hb2:=hb3
   have Gb:=Gj
   clear hS2 hb3 Gj
   revert hSS hb2 Gb
   generalize w3=W2
   intro hSS hb2 Gb
   have hc2:=za (o:=4) hb2 rfl
   have hf2:=zh (o:=4) hb2
   refine qO 6 hO rfl Wr (fun K hK=>?_)
   go_simp
   have KS:=(zb.refl [w.heap.size+1] W2).setCell (p:=⟨w.heap.size+1,4,none⟩) (.inl Wz) (.slice b v.m.length e)
   have hS2:(fun w':World=>w'.cell? ⟨w.heap.size,4,none⟩=some (.slice b v.m.length e)) (W2.setCell ⟨w.heap.size+1,4,none⟩ (.slice b v.m.length e)):=KS.cell hSS Wz
   have hb3:(W2.setCell ⟨w.heap.size+1,4,none⟩ (.slice b v.m.length e)).heap[w.heap.size+1]? = some (.cells #[.int .i64 v.kind,.int .i64 0,.string ⟨#[]⟩,.slice none 0 0,.slice b v.m.length e] 25 (0,0)):=zg hb2 rfl
   have Ga:=qI hb3
   have Gf:=qI (Gb.o.trans' KS)
   refine hK _ _ (.inr hS2) ?_
   clear hK K
   try simp only [zA,zN,zB,zC,zD]
   clear hSS hc2 hf2 hb2 hb3 KS
   have hSS:=hS2
   clear hS2
   refine qO 7 hO rfl Wr (fun K hK=>?_)
   go_simp
   refine hK _ _ (.inl rfl) ?_
   clear hK K
   try simp only [zA,zN,zB,zC,zD]
   refine zF hO Wr ?_ _
   subst hR
   try clear hQp hO O
   go_wp2_with fail
   go_meet
   exact⟨xA v.m,0,⟨#[]⟩,0,v.m.length,_,_,_,_,rfl,Gf.o,⟨za Ga.o rfl,za Ga.o rfl,za Ga.o rfl,za Ga.o rfl,za Ga.o rfl⟩,Gc⟩
  ·have f6:=(yF k6).1
   have HF:Hid (zx v=false):=qI (plain_else Ws)
   clear k1 k2 k3 k4 k5 k6
   go_wp2_with fail
   go_ret
   rw [HF.o]
   exact⟨rfl,Gg.o⟩
 case rest=>
  obtain⟨ok,m,s,l,k,al,am,cl,cm,rfl,hkr,hb,HP⟩:=hcut
  have Gk:Hid (zb [] w wc):=qI (Gg.o.trans hkr (by intro i hi;simp at hi;subst hi;exact .inr (Nat.le_succ _)))
  have hb1:=HB.o.kept hkr Wz
  clear c0 c1 c2 c3 c4
  obtain⟨c0,c1,c2,c3,c4⟩:=hb1
  obtain⟨d0,d1,d2,d3,d4⟩:=hb
  have t1:(v.num == m)=decide (v.num=m):=rfl
  have t2:=str_beq v.s s
  have t3:=nat_beq v.l.length l
  have t4:=nat_beq v.m.length k
  clear hkr
  unfold xF at HP
  revert HP t1 t2 t3 t4
  generalize decide (v.num=m)=q1
  generalize decide (v.s=s)=q2
  generalize decide (v.l.length=l)=q3
  generalize decide (v.m.length=k)=q4
  intro HP t1 t2 t3 t4
  have HF:Hid (zx v=(ok&&q1&&q2&&q3&&q4)):=HP
  clear HP
  cases ok
  ·go_wp2_with fail
   go_ret
   rw [HF.o]
   exact⟨rfl,Gk.o⟩
  cases q1
  ·go_wp2_with fail
   go_ret
   rw [HF.o]
   exact⟨rfl,Gk.o⟩
  cases q2
  ·go_wp2_with fail
   go_ret
   rw [HF.o]
   exact⟨rfl,Gk.o⟩
  cases q3
  ·go_wp2_with fail
   go_ret
   rw [HF.o]
   exact⟨rfl,Gk.o⟩
  ·go_wp2_with fail
   go_ret
   rw [HF.o]
   exact⟨bt Wz,Gk.o⟩
end Go.Proofs.YtibnfbglanpoiaaGreatDoor

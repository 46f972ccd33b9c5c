/- Parts of one proof, merged: XKI XKJ XKL. -/
import Derived.Test.YtjccecajigmfkaaGreatDoorSgI
import Derived.Test.YtjccecajigmfkaaGreatDoorSgK
set_option linter.all false
set_option maxHeartbeats 12800000
set_option maxRecDepth 100000
namespace Go.Proofs.YtjccecajigmfkaaGreatDoor
open Go.Proofs.Tryz
open Go.RowKit
variable {S T:Nat→Prop}{X:List Nat}{a b:Option Addr}{ca cb:List Value}{d:Nat}{lcs lcs':List (List Value)}{mcs mcs':List (ByteArray×List Value)}{n:Nat}{r:Bool}{α:Type}{v:VS α}{va vb:VS (V n)}{vl vm:Value}{w w':World}
def xC {α:Type}(v:VS α)(ok:Bool)(m:Int)(s:ByteArray)(l k:Nat):Prop:=zE v=(ok&&decide (v.num=m)&&decide (v.s=s)&&decide (v.l.length=l)&&decide (v.m.length=k))
theorem str_beq (a b:ByteArray):(a.toList == b.toList)=decide (a=b):=by
 by_cases h:a=b;·rw [(vu h).1,decide_eq_true h]
 ·rw [(jS h).1,decide_eq_false h]
theorem nat_beq (a b:Nat):((a:Int) == (b:Int))=decide (a=b):=by
 by_cases h:a=b;·rw [(YT h).1,decide_eq_true h]
 ·rw [(jQ h).1,decide_eq_false h]
theorem plain_1 (h:v.kind=1):xC v true 0 ⟨#[]⟩ 0 0:=by
 unfold xC zE bR;simp only [ko];rw [h];simp
theorem plain_2 (h:v.kind=2):xC v (decide (v.num=0∨v.num=1)) v.num ⟨#[]⟩ 0 0:=by
 unfold xC zE bR;simp only [ko];rw [h];simp
theorem plain_3 (h:v.kind=3):xC v (decide (-9007199254740991≤v.num∧v.num≤9007199254740991)) v.num ⟨#[]⟩ 0 0:=by
 unfold xC zE bR;simp only [ko];rw [h];simp
theorem plain_4 (h:v.kind=4):xC v (zw v.s) 0 v.s 0 0:=by
 unfold xC zE bR;simp only [ko];rw [h];simp [Bool.and_assoc]
theorem plain_5 (h:v.kind=5):xC v true 0 ⟨#[]⟩ v.l.length 0:=by
 unfold xC zE bR;simp only [ko];rw [h];simp
theorem plain_6 (h:v.kind=6):xC v (yV v.m) 0 ⟨#[]⟩ 0 v.m.length:=by
 unfold xC zE bR;simp only [ko];rw [h];simp
theorem plain_else (h:¬ (v.kind=1∨v.kind=2∨v.kind=3∨v.kind=4∨v.kind=5∨v.kind=6)):zE v=false:=by
 unfold zE;rw [if_neg Ws,if_neg Ws,if_neg Ws,if_neg Ws,if_neg Ws,if_neg Ws]
theorem plain_any {v:VS (V n)}{cs:List Value}(h:Rep (n+1) S w cs v)(hs:zP (n+1) v)(ht:xH w) : zJ w 203 #[.agg cs.toArray] (.bool (zE v)):=by
 have Gu:=qI h;have Gm:=qI hs;have HT:=qI ht;obtain⟨vl,vm,lcs,mcs,h⟩:=h;obtain⟨a,c,b,e,rfl,rfl,rfl⟩:=h.forms;have H:=qI h;obtain⟨z,Gi⟩:=XE ((w.alloc (.cells #[.int .i64 v.kind,.int .i64 v.num,.string v.s,.slice a v.l.length c,.slice b v.m.length e] 25)).alloc (.cells #[.int .i64 v.kind,.int .i64 0,.string ⟨#[]⟩,.slice none 0 0,.slice none 0 0] 25));have HB:Hid (yZ z w.heap.size v.kind v.num v.s (.slice a v.l.length c) (.slice b v.m.length e)):=qI (by rw [Gi.o];exact (xr w v.kind v.num v.s (.slice a v.l.length c) (.slice b v.m.length e) 25).k0 (Wd.alloc _));have W:Hid (zb [] w z):=qI (kA2 Gi.o);have L:Hid (z.heap[w.heap.size+1]? = some (.cells (kh v.kind 0 ⟨#[]⟩ (.slice none 0 0) (.slice none 0 0)) 25 (0,0))):=qI (by rw [Gi.o];exact ze Wz);have ad:(v.s.size:Int)≤400000:=by have:=hs.2;have e:zT (n+1) v=v.s.size+v.keyBytes+(v.kids.map (zT n)).sum:=rfl;omega
 have Ji:Hid (∀ p,p∈v.m→p.1.size≤400000):=qI fun p hp=>Nat.le_trans (key_le hp) hs.2;have HM:Hid (v.m.length≤20000):=qI (XC hs.few);have Ja:Hid (∀ {w'},zb [] w w'→yk (Rep n S w') S w' _ v _ _ lcs mcs):=qI fun k=>{ cells:=h.cells,slcl:=h.slcl.k0 k,alll:=h.alll.mono fun _ _ _ r=>r.k0 k,slcm:=h.slcm.k0 k,allm:=h.allm.mono fun _ _ _ r=>⟨r.1,r.2.k0 k⟩,inl:=h.inl,inm:=h.inm,wfk:=h.wfk,wfn:=h.wfn };obtain⟨c0,c1,c2,c3,c4⟩:=HB.o;rw [Gi.o] at c0 c1 c2 c3 c4;clear h hs ht;go_enter func203,ntmps203;go_upto_block 0 with fail;rw [← Gi.o];rw [← Gi.o] at c0 c1 c2 c3 c4;go_cut [4] from 10 to 58 (fun q wr=>∃ (ok:Bool) (m:Int) (s:ByteArray) (l k:Nat) (al am:Option Addr) (cl cm:Nat),q = .bool ok∧zb [w.heap.size+1] z wr∧yZ wr (w.heap.size+1) v.kind m s (.slice al l cl) (.slice am k cm)∧Hid (xC v ok m s l k));case first=>
  by_cases N:v.kind=1;·have f1:=(xw N).1;have F:=qI (plain_1 N);clear N;go_wp2;go_meet;exact⟨true,0,⟨#[]⟩,0,0,_,_,_,_,rfl,Wd,⟨za L.o rfl,za L.o rfl,za L.o rfl,za L.o rfl,za L.o rfl⟩,F⟩
  have f1:=(zR N).1;by_cases P:v.kind=2
  ·have f2:=(xw P).1;have F:=qI (plain_2 P);by_cases Q:v.num=0
   ·have g1:=(xw Q).1;have F:Hid (xC v true v.num ⟨#[]⟩ 0 0):=qI (by have:=F.o;rw [decide_eq_true (.inl Q)] at this;exact this);clear N P Q;go_wp2_with fail;refine zt (n:=13) (fun w':World=>w'.cell? ⟨w.heap.size,1,none⟩=some (.int .i64 v.num)) 12 Wr Wr ?_;change zS _ _ _ _ _ _ _ _ _ z.drew;have d:(fun w':World=>w'.cell? ⟨w.heap.size,1,none⟩=some (.int .i64 v.num)) z.drew:=c1;have t:z.drew.heap[w.heap.size+1]? = some (.cells (kh v.kind 0 ⟨#[]⟩ (.slice none 0 0) (.slice none 0 0)) 25 (0,0)):=L.o;have C:Hid (zb [w.heap.size+1] z z.drew):=qI Wd.drew;have G:Hid (zb [] w z.drew):=qI W.o.drew;clear c0 c1 c2 c3 c4;revert d t C G;generalize z.drew=W2;intro d t C G;refine zF ?_;intro O R u I;have f:kI R:=by subst I;exact fun _ _ _ _ _ h=>h
    refine qT 0 ?_ u rfl rfl Wr f (fun w j=>?_) d ?_;rotate_left;·exact zg
    try simp only [XI]
    refine qT 1 ?_ u rfl rfl Wr f (fun w j=>?_) d ?_;rotate_left;·exact zg
    try simp only [XI]
    refine qT 2 ?_ u rfl rfl Wr f (fun w j=>?_) d ?_;rotate_left;·exact zg
    try simp only [XI]
    refine qT 3 ?_ u rfl rfl Wr f (fun w j=>?_) d ?_;rotate_left;·exact zg
    try simp only [XI]
    refine qT 4 ?_ u rfl rfl Wr f (fun w j=>?_) d ?_;rotate_left;·exact zg
    try simp only [XI]
    refine qT 5 ?_ u rfl rfl Wr f (fun w j=>?_) d ?_;rotate_left;·exact zg
    try simp only [XI]
    refine zV (i:=6) (v:=undef) u rfl rfl Wr Wr Wr Wr f (Or.inr ⟨Wr,rfl⟩) d ?_;try simp only [XI]
    refine zV (i:=7) (v:=undef) u rfl rfl Wr Wr Wr Wr f (Or.inr ⟨Wr,rfl⟩) d ?_;try simp only [XI]
    refine zV (i:=8) (v:=undef) u rfl rfl Wr Wr Wr Wr f (Or.inr ⟨Wr,rfl⟩) d ?_;try simp only [XI]
    refine qT 9 ?_ u rfl rfl Wr f (fun w j=>?_) d ?_;rotate_left;·exact zg
    try simp only [XI]
    refine qT 10 ?_ u rfl rfl Wr f (fun w j=>?_) d ?_;rotate_left;·exact zg
    try simp only [XI]
    have E:=za (o:=1) t rfl;have D:=zh (o:=1) t;refine qO 11 u rfl Wr (fun K B=>?_);go_simp;have KS:=(zb.refl [w.heap.size+1] W2).setCell (p:=⟨w.heap.size+1,1,none⟩) (.inl Wz) (.int .i64 v.num);have x:(fun w':World=>w'.cell? ⟨w.heap.size,1,none⟩=some (.int .i64 v.num)) (W2.setCell ⟨w.heap.size+1,1,none⟩ (.int .i64 v.num)):=KS.cell d Wz;have y:(W2.setCell ⟨w.heap.size+1,1,none⟩ (.int .i64 v.num)).heap[w.heap.size+1]? = some (.cells #[.int .i64 v.kind,.int .i64 v.num,.string ⟨#[]⟩,.slice none 0 0,.slice none 0 0] 25 (0,0)):=zd t rfl;have A:=qI y;have M:=qI (C.o.trans' KS);refine B _ _ (.inr x) ?_;clear B K;try simp only [XI]
    clear d E D t y KS;have d:=x;clear x;refine qO 12 u rfl Wr (fun K B=>?_);go_simp;refine B _ _ (.inl rfl) ?_;clear B K;try simp only [XI]
    refine zz u Wr ?_ _;subst I;try clear f u O
    go_wp2;go_meet;exact⟨true,v.num,⟨#[]⟩,0,0,_,_,_,_,rfl,M.o,⟨za A.o rfl,za A.o rfl,za A.o rfl,za A.o rfl,za A.o rfl⟩,F⟩
   have g1:=(zR Q).1;by_cases U:v.num=1
   ·have g2:=(xw U).1;have F:Hid (xC v true v.num ⟨#[]⟩ 0 0):=qI (by have:=F.o;rw [decide_eq_true (.inr U)] at this;exact this);clear N P Q U;go_wp2_with fail;refine zt (n:=13) (fun w':World=>w'.cell? ⟨w.heap.size,1,none⟩=some (.int .i64 v.num)) 12 Wr Wr ?_;change zS _ _ _ _ _ _ _ _ _ z.drew;have d:(fun w':World=>w'.cell? ⟨w.heap.size,1,none⟩=some (.int .i64 v.num)) z.drew:=c1;have t:z.drew.heap[w.heap.size+1]? = some (.cells (kh v.kind 0 ⟨#[]⟩ (.slice none 0 0) (.slice none 0 0)) 25 (0,0)):=L.o;have C:Hid (zb [w.heap.size+1] z z.drew):=qI Wd.drew;have G:Hid (zb [] w z.drew):=qI W.o.drew;clear c0 c1 c2 c3 c4;revert d t C G;generalize z.drew=W2;intro d t C G;refine zF ?_;intro O R u I;have f:kI R:=by subst I;exact fun _ _ _ _ _ h=>h
    refine qT 0 ?_ u rfl rfl Wr f (fun w j=>?_) d ?_;rotate_left;·exact zg
    try simp only [XI]
    refine qT 1 ?_ u rfl rfl Wr f (fun w j=>?_) d ?_;rotate_left;·exact zg
    try simp only [XI]
    refine qT 2 ?_ u rfl rfl Wr f (fun w j=>?_) d ?_;rotate_left;·exact zg
    try simp only [XI]
    refine qT 3 ?_ u rfl rfl Wr f (fun w j=>?_) d ?_;rotate_left;·exact zg
    try simp only [XI]
    refine qT 4 ?_ u rfl rfl Wr f (fun w j=>?_) d ?_;rotate_left;·exact zg
    try simp only [XI]
    refine qT 5 ?_ u rfl rfl Wr f (fun w j=>?_) d ?_;rotate_left;·exact zg
    try simp only [XI]
    refine qT 6 ?_ u rfl rfl Wr f (fun w j=>?_) d ?_;rotate_left;·exact zg
    try simp only [XI]
    refine qT 7 ?_ u rfl rfl Wr f (fun w j=>?_) d ?_;rotate_left;·exact zg
    try simp only [XI]
    refine qT 8 ?_ u rfl rfl Wr f (fun w j=>?_) d ?_;rotate_left;·exact zg
    try simp only [XI]
    refine qT 9 ?_ u rfl rfl Wr f (fun w j=>?_) d ?_;rotate_left;·exact zg
    try simp only [XI]
    refine qT 10 ?_ u rfl rfl Wr f (fun w j=>?_) d ?_;rotate_left;·exact zg
    try simp only [XI]
    have E:=za (o:=1) t rfl;have D:=zh (o:=1) t;refine qO 11 u rfl Wr (fun K B=>?_);go_simp;have KS:=(zb.refl [w.heap.size+1] W2).setCell (p:=⟨w.heap.size+1,1,none⟩) (.inl Wz) (.int .i64 v.num);have x:(fun w':World=>w'.cell? ⟨w.heap.size,1,none⟩=some (.int .i64 v.num)) (W2.setCell ⟨w.heap.size+1,1,none⟩ (.int .i64 v.num)):=KS.cell d Wz;have y:(W2.setCell ⟨w.heap.size+1,1,none⟩ (.int .i64 v.num)).heap[w.heap.size+1]? = some (.cells #[.int .i64 v.kind,.int .i64 v.num,.string ⟨#[]⟩,.slice none 0 0,.slice none 0 0] 25 (0,0)):=zd t rfl;have A:=qI y;have M:=qI (C.o.trans' KS);refine B _ _ (.inr x) ?_;clear B K;try simp only [XI]
    clear d E D t y KS;have d:=x;clear x;refine qO 12 u rfl Wr (fun K B=>?_);go_simp;refine B _ _ (.inl rfl) ?_;clear B K;try simp only [XI]
    refine zz u Wr ?_ _;subst I;try clear f u O
    go_wp2;go_meet;exact⟨true,v.num,⟨#[]⟩,0,0,_,_,_,_,rfl,M.o,⟨za A.o rfl,za A.o rfl,za A.o rfl,za A.o rfl,za A.o rfl⟩,F⟩
   ·have g2:=(zR U).1;have F:Hid (xC v false v.num ⟨#[]⟩ 0 0):=qI (by have:=F.o;rw [decide_eq_false (by rintro (q | q);exact Q q;exact U q)] at this;exact this);clear N P Q U;go_wp2_with fail;refine zt (n:=13) (fun w':World=>w'.cell? ⟨w.heap.size,1,none⟩=some (.int .i64 v.num)) 12 Wr Wr ?_;change zS _ _ _ _ _ _ _ _ _ z.drew;have d:(fun w':World=>w'.cell? ⟨w.heap.size,1,none⟩=some (.int .i64 v.num)) z.drew:=c1;have t:z.drew.heap[w.heap.size+1]? = some (.cells (kh v.kind 0 ⟨#[]⟩ (.slice none 0 0) (.slice none 0 0)) 25 (0,0)):=L.o;have C:Hid (zb [w.heap.size+1] z z.drew):=qI Wd.drew;have G:Hid (zb [] w z.drew):=qI W.o.drew;clear c0 c1 c2 c3 c4;revert d t C G;generalize z.drew=W2;intro d t C G;refine zF ?_;intro O R u I;have f:kI R:=by subst I;exact fun _ _ _ _ _ h=>h
    refine qT 0 ?_ u rfl rfl Wr f (fun w j=>?_) d ?_;rotate_left;·exact zg
    try simp only [XI]
    refine qT 1 ?_ u rfl rfl Wr f (fun w j=>?_) d ?_;rotate_left;·exact zg
    try simp only [XI]
    refine qT 2 ?_ u rfl rfl Wr f (fun w j=>?_) d ?_;rotate_left;·exact zg
    try simp only [XI]
    refine qT 3 ?_ u rfl rfl Wr f (fun w j=>?_) d ?_;rotate_left;·exact zg
    try simp only [XI]
    refine qT 4 ?_ u rfl rfl Wr f (fun w j=>?_) d ?_;rotate_left;·exact zg
    try simp only [XI]
    refine qT 5 ?_ u rfl rfl Wr f (fun w j=>?_) d ?_;rotate_left;·exact zg
    try simp only [XI]
    refine qT 6 ?_ u rfl rfl Wr f (fun w j=>?_) d ?_;rotate_left;·exact zg
    try simp only [XI]
    refine qT 7 ?_ u rfl rfl Wr f (fun w j=>?_) d ?_;rotate_left;·exact zg
    try simp only [XI]
    refine qT 8 ?_ u rfl rfl Wr f (fun w j=>?_) d ?_;rotate_left;·exact zg
    try simp only [XI]
    refine qT 9 ?_ u rfl rfl Wr f (fun w j=>?_) d ?_;rotate_left;·exact zg
    try simp only [XI]
    refine qT 10 ?_ u rfl rfl Wr f (fun w j=>?_) d ?_;rotate_left;·exact zg
    try simp only [XI]
    have E:=za (o:=1) t rfl;have D:=zh (o:=1) t;refine qO 11 u rfl Wr (fun K B=>?_);go_simp;have KS:=(zb.refl [w.heap.size+1] W2).setCell (p:=⟨w.heap.size+1,1,none⟩) (.inl Wz) (.int .i64 v.num);have x:(fun w':World=>w'.cell? ⟨w.heap.size,1,none⟩=some (.int .i64 v.num)) (W2.setCell ⟨w.heap.size+1,1,none⟩ (.int .i64 v.num)):=KS.cell d Wz;have y:(W2.setCell ⟨w.heap.size+1,1,none⟩ (.int .i64 v.num)).heap[w.heap.size+1]? = some (.cells #[.int .i64 v.kind,.int .i64 v.num,.string ⟨#[]⟩,.slice none 0 0,.slice none 0 0] 25 (0,0)):=zd t rfl;have A:=qI y;have M:=qI (C.o.trans' KS);refine B _ _ (.inr x) ?_;clear B K;try simp only [XI]
    clear d E D t y KS;have d:=x;clear x;refine qO 12 u rfl Wr (fun K B=>?_);go_simp;refine B _ _ (.inl rfl) ?_;clear B K;try simp only [XI]
    refine zz u Wr ?_ _;subst I;try clear f u O
    go_wp2;go_meet;exact⟨false,v.num,⟨#[]⟩,0,0,_,_,_,_,rfl,M.o,⟨za A.o rfl,za A.o rfl,za A.o rfl,za A.o rfl,za A.o rfl⟩,F⟩
  have f2:=(zR P).1;by_cases X:v.kind=3
  ·have f3:=(xw X).1;have F:=qI (plain_3 X);by_cases Q:-9007199254740991≤v.num
   ·by_cases U:v.num≤9007199254740991
    ·have F:Hid (xC v true v.num ⟨#[]⟩ 0 0):=qI (by have:=F.o;rw [decide_eq_true ⟨Q,U⟩] at this;exact this);clear N P X;go_wp2_with fail;refine zt (n:=13) (fun w':World=>w'.cell? ⟨w.heap.size,1,none⟩=some (.int .i64 v.num)) 12 Wr Wr ?_;change zS _ _ _ _ _ _ _ _ _ z.drew;have d:(fun w':World=>w'.cell? ⟨w.heap.size,1,none⟩=some (.int .i64 v.num)) z.drew:=c1;have t:z.drew.heap[w.heap.size+1]? = some (.cells (kh v.kind 0 ⟨#[]⟩ (.slice none 0 0) (.slice none 0 0)) 25 (0,0)):=L.o;have C:Hid (zb [w.heap.size+1] z z.drew):=qI Wd.drew;have G:Hid (zb [] w z.drew):=qI W.o.drew;clear c0 c1 c2 c3 c4;revert d t C G;generalize z.drew=W2;intro d t C G;refine zF ?_;intro O R u I;have f:kI R:=by subst I;exact fun _ _ _ _ _ h=>h
     refine qT 0 ?_ u rfl rfl Wr f (fun w j=>?_) d ?_;rotate_left;·exact zg
     try simp only [XI]
     refine qT 1 ?_ u rfl rfl Wr f (fun w j=>?_) d ?_;rotate_left;·exact zg
     try simp only [XI]
     refine qT 2 ?_ u rfl rfl Wr f (fun w j=>?_) d ?_;rotate_left;·exact zg
     try simp only [XI]
     refine qT 3 ?_ u rfl rfl Wr f (fun w j=>?_) d ?_;rotate_left;·exact zg
     try simp only [XI]
     refine qT 4 ?_ u rfl rfl Wr f (fun w j=>?_) d ?_;rotate_left;·exact zg
     try simp only [XI]
     refine qT 5 ?_ u rfl rfl Wr f (fun w j=>?_) d ?_;rotate_left;·exact zg
     try simp only [XI]
     refine qT 6 ?_ u rfl rfl Wr f (fun w j=>?_) d ?_;rotate_left;·exact zg
     try simp only [XI]
     refine qT 7 ?_ u rfl rfl Wr f (fun w j=>?_) d ?_;rotate_left;·exact zg
     try simp only [XI]
     refine qT 8 ?_ u rfl rfl Wr f (fun w j=>?_) d ?_;rotate_left;·exact zg
     try simp only [XI]
     refine qT 9 ?_ u rfl rfl Wr f (fun w j=>?_) d ?_;rotate_left;·exact zg
     try simp only [XI]
     refine qT 10 ?_ u rfl rfl Wr f (fun w j=>?_) d ?_;rotate_left;·exact zg
     try simp only [XI]
     have E:=za (o:=1) t rfl;have D:=zh (o:=1) t;refine qO 11 u rfl Wr (fun K B=>?_);go_simp;have KS:=(zb.refl [w.heap.size+1] W2).setCell (p:=⟨w.heap.size+1,1,none⟩) (.inl Wz) (.int .i64 v.num);have x:(fun w':World=>w'.cell? ⟨w.heap.size,1,none⟩=some (.int .i64 v.num)) (W2.setCell ⟨w.heap.size+1,1,none⟩ (.int .i64 v.num)):=KS.cell d Wz;have y:(W2.setCell ⟨w.heap.size+1,1,none⟩ (.int .i64 v.num)).heap[w.heap.size+1]? = some (.cells #[.int .i64 v.kind,.int .i64 v.num,.string ⟨#[]⟩,.slice none 0 0,.slice none 0 0] 25 (0,0)):=zd t rfl;have A:=qI y;have M:=qI (C.o.trans' KS);refine B _ _ (.inr x) ?_;clear B K;try simp only [XI]
     clear d E D t y KS;have d:=x;clear x;refine qO 12 u rfl Wr (fun K B=>?_);go_simp;refine B _ _ (.inl rfl) ?_;clear B K;try simp only [XI]
     refine zz u Wr ?_ _;subst I;try clear f u O
     go_wp2;go_meet;exact⟨true,v.num,⟨#[]⟩,0,0,_,_,_,_,rfl,M.o,⟨za A.o rfl,za A.o rfl,za A.o rfl,za A.o rfl,za A.o rfl⟩,F⟩
    ·have F:Hid (xC v false v.num ⟨#[]⟩ 0 0):=qI (by have:=F.o;rw [decide_eq_false (fun q=>U q.2)] at this;exact this);have g2:=decide_eq_false U;clear N P X U;go_wp2_with fail;refine zt (n:=13) (fun w':World=>w'.cell? ⟨w.heap.size,1,none⟩=some (.int .i64 v.num)) 12 Wr Wr ?_;change zS _ _ _ _ _ _ _ _ _ z.drew;have d:(fun w':World=>w'.cell? ⟨w.heap.size,1,none⟩=some (.int .i64 v.num)) z.drew:=c1;have t:z.drew.heap[w.heap.size+1]? = some (.cells (kh v.kind 0 ⟨#[]⟩ (.slice none 0 0) (.slice none 0 0)) 25 (0,0)):=L.o;have C:Hid (zb [w.heap.size+1] z z.drew):=qI Wd.drew;have G:Hid (zb [] w z.drew):=qI W.o.drew;clear c0 c1 c2 c3 c4;revert d t C G;generalize z.drew=W2;intro d t C G;refine zF ?_;intro O R u I;have f:kI R:=by subst I;exact fun _ _ _ _ _ h=>h
     refine qT 0 ?_ u rfl rfl Wr f (fun w j=>?_) d ?_;rotate_left;·exact zg
     try simp only [XI]
     refine qT 1 ?_ u rfl rfl Wr f (fun w j=>?_) d ?_;rotate_left;·exact zg
     try simp only [XI]
     refine qT 2 ?_ u rfl rfl Wr f (fun w j=>?_) d ?_;rotate_left;·exact zg
     try simp only [XI]
     refine qT 3 ?_ u rfl rfl Wr f (fun w j=>?_) d ?_;rotate_left;·exact zg
     try simp only [XI]
     refine qT 4 ?_ u rfl rfl Wr f (fun w j=>?_) d ?_;rotate_left;·exact zg
     try simp only [XI]
     refine qT 5 ?_ u rfl rfl Wr f (fun w j=>?_) d ?_;rotate_left;·exact zg
     try simp only [XI]
     refine qT 6 ?_ u rfl rfl Wr f (fun w j=>?_) d ?_;rotate_left;·exact zg
     try simp only [XI]
     refine qT 7 ?_ u rfl rfl Wr f (fun w j=>?_) d ?_;rotate_left;·exact zg
     try simp only [XI]
     refine qT 8 ?_ u rfl rfl Wr f (fun w j=>?_) d ?_;rotate_left;·exact zg
     try simp only [XI]
     refine qT 9 ?_ u rfl rfl Wr f (fun w j=>?_) d ?_;rotate_left;·exact zg
     try simp only [XI]
     refine qT 10 ?_ u rfl rfl Wr f (fun w j=>?_) d ?_;rotate_left;·exact zg
     try simp only [XI]
     have E:=za (o:=1) t rfl;have D:=zh (o:=1) t;refine qO 11 u rfl Wr (fun K B=>?_);go_simp;have KS:=(zb.refl [w.heap.size+1] W2).setCell (p:=⟨w.heap.size+1,1,none⟩) (.inl Wz) (.int .i64 v.num);have x:(fun w':World=>w'.cell? ⟨w.heap.size,1,none⟩=some (.int .i64 v.num)) (W2.setCell ⟨w.heap.size+1,1,none⟩ (.int .i64 v.num)):=KS.cell d Wz;have y:(W2.setCell ⟨w.heap.size+1,1,none⟩ (.int .i64 v.num)).heap[w.heap.size+1]? = some (.cells #[.int .i64 v.kind,.int .i64 v.num,.string ⟨#[]⟩,.slice none 0 0,.slice none 0 0] 25 (0,0)):=zd t rfl;have A:=qI y;have M:=qI (C.o.trans' KS);refine B _ _ (.inr x) ?_;clear B K;try simp only [XI]
     clear d E D t y KS;have d:=x;clear x;refine qO 12 u rfl Wr (fun K B=>?_);go_simp;refine B _ _ (.inl rfl) ?_;clear B K;try simp only [XI]
     refine zz u Wr ?_ _;subst I;try clear f u O
     go_wp2;go_meet;exact⟨false,v.num,⟨#[]⟩,0,0,_,_,_,_,rfl,M.o,⟨za A.o rfl,za A.o rfl,za A.o rfl,za A.o rfl,za A.o rfl⟩,F⟩
   ·have F:Hid (xC v false v.num ⟨#[]⟩ 0 0):=qI (by have:=F.o;rw [decide_eq_false (fun q=>Q q.1)] at this;exact this);have g2:=decide_eq_false Q;clear N P X Q;go_wp2_with fail;refine zt (n:=13) (fun w':World=>w'.cell? ⟨w.heap.size,1,none⟩=some (.int .i64 v.num)) 12 Wr Wr ?_;change zS _ _ _ _ _ _ _ _ _ z.drew;have d:(fun w':World=>w'.cell? ⟨w.heap.size,1,none⟩=some (.int .i64 v.num)) z.drew:=c1;have t:z.drew.heap[w.heap.size+1]? = some (.cells (kh v.kind 0 ⟨#[]⟩ (.slice none 0 0) (.slice none 0 0)) 25 (0,0)):=L.o;have C:Hid (zb [w.heap.size+1] z z.drew):=qI Wd.drew;have G:Hid (zb [] w z.drew):=qI W.o.drew;clear c0 c1 c2 c3 c4;revert d t C G;generalize z.drew=W2;intro d t C G;refine zF ?_;intro O R u I;have f:kI R:=by subst I;exact fun _ _ _ _ _ h=>h
    refine qT 0 ?_ u rfl rfl Wr f (fun w j=>?_) d ?_;rotate_left;·exact zg
    try simp only [XI]
    refine qT 1 ?_ u rfl rfl Wr f (fun w j=>?_) d ?_;rotate_left;·exact zg
    try simp only [XI]
    refine qT 2 ?_ u rfl rfl Wr f (fun w j=>?_) d ?_;rotate_left;·exact zg
    try simp only [XI]
    refine qT 3 ?_ u rfl rfl Wr f (fun w j=>?_) d ?_;rotate_left;·exact zg
    try simp only [XI]
    refine qT 4 ?_ u rfl rfl Wr f (fun w j=>?_) d ?_;rotate_left;·exact zg
    try simp only [XI]
    refine qT 5 ?_ u rfl rfl Wr f (fun w j=>?_) d ?_;rotate_left;·exact zg
    try simp only [XI]
    refine zV (i:=6) (v:=undef) u rfl rfl Wr Wr Wr Wr f (Or.inr ⟨Wr,rfl⟩) d ?_;try simp only [XI]
    refine zV (i:=7) (v:=undef) u rfl rfl Wr Wr Wr Wr f (Or.inr ⟨Wr,rfl⟩) d ?_;try simp only [XI]
    refine zV (i:=8) (v:=undef) u rfl rfl Wr Wr Wr Wr f (Or.inr ⟨Wr,rfl⟩) d ?_;try simp only [XI]
    refine qT 9 ?_ u rfl rfl Wr f (fun w j=>?_) d ?_;rotate_left;·exact zg
    try simp only [XI]
    refine qT 10 ?_ u rfl rfl Wr f (fun w j=>?_) d ?_;rotate_left;·exact zg
    try simp only [XI]
    have E:=za (o:=1) t rfl;have D:=zh (o:=1) t;refine qO 11 u rfl Wr (fun K B=>?_);go_simp;have KS:=(zb.refl [w.heap.size+1] W2).setCell (p:=⟨w.heap.size+1,1,none⟩) (.inl Wz) (.int .i64 v.num);have x:(fun w':World=>w'.cell? ⟨w.heap.size,1,none⟩=some (.int .i64 v.num)) (W2.setCell ⟨w.heap.size+1,1,none⟩ (.int .i64 v.num)):=KS.cell d Wz;have y:(W2.setCell ⟨w.heap.size+1,1,none⟩ (.int .i64 v.num)).heap[w.heap.size+1]? = some (.cells #[.int .i64 v.kind,.int .i64 v.num,.string ⟨#[]⟩,.slice none 0 0,.slice none 0 0] 25 (0,0)):=zd t rfl;have A:=qI y;have M:=qI (C.o.trans' KS);refine B _ _ (.inr x) ?_;clear B K;try simp only [XI]
    clear d E D t y KS;have d:=x;clear x;refine qO 12 u rfl Wr (fun K B=>?_);go_simp;refine B _ _ (.inl rfl) ?_;clear B K;try simp only [XI]
    refine zz u Wr ?_ _;subst I;try clear f u O
    go_wp2;go_meet;exact⟨false,v.num,⟨#[]⟩,0,0,_,_,_,_,rfl,M.o,⟨za A.o rfl,za A.o rfl,za A.o rfl,za A.o rfl,za A.o rfl⟩,F⟩
  have f3:=(zR X).1;by_cases Y:v.kind=4
  ·have f4:=(xw Y).1;have F:=qI (plain_4 Y);clear N P X Y;go_wp2_with fail;refine zt (n:=8) (fun w':World=>w'.cell? ⟨w.heap.size,2,none⟩=some (.string v.s)) 7 Wr Wr ?_;change zS _ _ _ _ _ _ _ _ _ z.drew;have d:(fun w':World=>w'.cell? ⟨w.heap.size,2,none⟩=some (.string v.s)) z.drew:=c2;have t:z.drew.heap[w.heap.size+1]? = some (.cells (kh v.kind 0 ⟨#[]⟩ (.slice none 0 0) (.slice none 0 0)) 25 (0,0)):=L.o;have C:Hid (zb [w.heap.size+1] z z.drew):=qI Wd.drew;have G:Hid (zb [] w z.drew):=qI W.o.drew;clear c0 c1 c2 c3 c4;revert d t C G;generalize z.drew=W2;intro d t C G;refine zF ?_;intro O R u I;have f:kI R:=by subst I;exact fun _ _ _ _ _ h=>h
   refine qT 0 ?_ u rfl rfl Wr f (fun w j=>?_) d ?_;rotate_left;·exact zg
   try simp only [XI]
   refine qT 1 ?_ u rfl rfl Wr f (fun w j=>?_) d ?_;rotate_left;·exact zg
   try simp only [XI]
   refine qT 2 ?_ u rfl rfl Wr f (fun w j=>?_) d ?_;rotate_left;·exact zg
   try simp only [XI]
   refine qT 3 ?_ u rfl rfl Wr f (fun w j=>?_) d ?_;rotate_left;·exact zg
   try simp only [XI]
   refine qT 5 ?_ u rfl rfl Wr f (fun w j=>?_) d ?_;rotate_left;·exact zg
   try simp only [XI]
   refine qO 4 u rfl Wr (fun K B=>?_);go_simp;refine Calls.mono (zbt (HT.o.k0 G.o) v.s Ws) ?_;rintro e w3 ⟨rfl,J⟩;have x:(fun w':World=>w'.cell? ⟨w.heap.size,2,none⟩=some (.string v.s)) w3:=J.cell d Wz;have y:=J.heap t Wz;have Jb:=qI (C.o.then J);refine B _ _ (.inr x) ?_;clear B K;try simp only [XI]
   clear d t J C;have d:=x;have t:=y;have C:=Jb;clear x y Jb;revert d t C;generalize w3=W2;intro d t C;have E:=za (o:=2) t rfl;have D:=zh (o:=2) t;refine qO 6 u rfl Wr (fun K B=>?_);go_simp;have KS:=(zb.refl [w.heap.size+1] W2).setCell (p:=⟨w.heap.size+1,2,none⟩) (.inl Wz) (.string v.s);have x:(fun w':World=>w'.cell? ⟨w.heap.size,2,none⟩=some (.string v.s)) (W2.setCell ⟨w.heap.size+1,2,none⟩ (.string v.s)):=KS.cell d Wz;have y:(W2.setCell ⟨w.heap.size+1,2,none⟩ (.string v.s)).heap[w.heap.size+1]? = some (.cells #[.int .i64 v.kind,.int .i64 0,.string v.s,.slice none 0 0,.slice none 0 0] 25 (0,0)):=zd t rfl;have A:=qI y;have M:=qI (C.o.trans' KS);refine B _ _ (.inr x) ?_;clear B K;try simp only [XI]
   clear d E D t y KS;have d:=x;clear x;refine qO 7 u rfl Wr (fun K B=>?_);go_simp;refine B _ _ (.inl rfl) ?_;clear B K;try simp only [XI]
   refine zz u Wr ?_ _;subst I;try clear f u O
   go_wp2;go_meet;exact⟨zw v.s,0,v.s,0,0,_,_,_,_,rfl,M.o,⟨za A.o rfl,za A.o rfl,za A.o rfl,za A.o rfl,za A.o rfl⟩,F⟩
  have f4:=(zR Y).1;by_cases k5:v.kind=5;·have f5:=(xw k5).1;have F:=qI (plain_5 k5);have E:=za (o:=3) L.o rfl;have D:=zh (o:=3) L.o;clear N P X Y k5;go_wp2_with fail;have y:(z.setCell ⟨w.heap.size+1,3,none⟩ (.slice a v.l.length c)).heap[w.heap.size+1]? = some (.cells #[.int .i64 v.kind,.int .i64 0,.string ⟨#[]⟩,.slice a v.l.length c,.slice none 0 0] 25 (0,0)):=zd L.o rfl;have A:=qI y;go_meet;exact⟨true,0,⟨#[]⟩,v.l.length,0,_,_,_,_,rfl,(zb.refl [w.heap.size+1] z).setCell (p:=⟨w.heap.size+1,3,none⟩) (.inl Wz) _,⟨za A.o rfl,za A.o rfl,za A.o rfl,za A.o rfl,za A.o rfl⟩,F⟩
  have f5:=(zR k5).1;by_cases k6:v.kind=6
  ·have f6:=(xw k6).1;have F:=qI (plain_6 k6);clear N P X Y k5 k6;go_wp2_with fail;refine zt (n:=8) (fun w':World=>w'.cell? ⟨w.heap.size,4,none⟩=some (.slice b v.m.length e)) 7 Wr Wr ?_;change zS _ _ _ _ _ _ _ _ _ z.drew;have d:(fun w':World=>w'.cell? ⟨w.heap.size,4,none⟩=some (.slice b v.m.length e)) z.drew:=c4;have t:z.drew.heap[w.heap.size+1]? = some (.cells (kh v.kind 0 ⟨#[]⟩ (.slice none 0 0) (.slice none 0 0)) 25 (0,0)):=L.o;have C:Hid (zb [w.heap.size+1] z z.drew):=qI Wd.drew;have G:Hid (zb [] w z.drew):=qI W.o.drew;clear c0 c1 c2 c3 c4;revert d t C G;generalize z.drew=W2;intro d t C G;refine zF ?_;intro O R u I;have f:kI R:=by subst I;exact fun _ _ _ _ _ h=>h
   refine qT 0 ?_ u rfl rfl Wr f (fun w j=>?_) d ?_;rotate_left;·exact zg
   try simp only [XI]
   refine qT 1 ?_ u rfl rfl Wr f (fun w j=>?_) d ?_;rotate_left;·exact zg
   try simp only [XI]
   refine qT 2 ?_ u rfl rfl Wr f (fun w j=>?_) d ?_;rotate_left;·exact zg
   try simp only [XI]
   refine qT 3 ?_ u rfl rfl Wr f (fun w j=>?_) d ?_;rotate_left;·exact zg
   try simp only [XI]
   refine qT 5 ?_ u rfl rfl Wr f (fun w j=>?_) d ?_;rotate_left;·exact zg
   try simp only [XI]
   refine qO 4 u rfl Wr (fun K B=>?_);go_simp;refine Calls.mono (keys_any (Ja.o G.o) HM.o Ji.o (HT.o.k0 G.o)) ?_;rintro e w3 ⟨rfl,J⟩;have x:(fun w':World=>w'.cell? ⟨w.heap.size,4,none⟩=some (.slice b v.m.length e)) w3:=J.cell d Wz;have y:=J.heap t Wz;have Jb:=qI (C.o.then J);refine B _ _ (.inr x) ?_;clear B K;try simp only [XI]
   clear d t J C;have d:=x;have t:=y;have C:=Jb;clear x y Jb;revert d t C;generalize w3=W2;intro d t C;have E:=za (o:=4) t rfl;have D:=zh (o:=4) t;refine qO 6 u rfl Wr (fun K B=>?_);go_simp;have KS:=(zb.refl [w.heap.size+1] W2).setCell (p:=⟨w.heap.size+1,4,none⟩) (.inl Wz) (.slice b v.m.length e);have x:(fun w':World=>w'.cell? ⟨w.heap.size,4,none⟩=some (.slice b v.m.length e)) (W2.setCell ⟨w.heap.size+1,4,none⟩ (.slice b v.m.length e)):=KS.cell d Wz;have y:(W2.setCell ⟨w.heap.size+1,4,none⟩ (.slice b v.m.length e)).heap[w.heap.size+1]? = some (.cells #[.int .i64 v.kind,.int .i64 0,.string ⟨#[]⟩,.slice none 0 0,.slice b v.m.length e] 25 (0,0)):=zd t rfl;have A:=qI y;have M:=qI (C.o.trans' KS);refine B _ _ (.inr x) ?_;clear B K;try simp only [XI]
   clear d E D t y KS;have d:=x;clear x;refine qO 7 u rfl Wr (fun K B=>?_);go_simp;refine B _ _ (.inl rfl) ?_;clear B K;try simp only [XI]
   refine zz u Wr ?_ _;subst I;try clear f u O
   go_wp2;go_meet;exact⟨yV v.m,0,⟨#[]⟩,0,v.m.length,_,_,_,_,rfl,M.o,⟨za A.o rfl,za A.o rfl,za A.o rfl,za A.o rfl,za A.o rfl⟩,F⟩
  ·have f6:=(zR k6).1;have Z:Hid (zE v=false):=qI (plain_else Ws);clear N P X Y k5 k6;go_wp2;go_ret;rw [Z.o];exact⟨rfl,W.o⟩
 case rest=>
  obtain⟨ok,m,s,l,k,al,am,cl,cm,rfl,aa,hb,HP⟩:=hcut;have Gg:Hid (zb [] w wc):=qI (W.o.trans aa (by intro i hi;simp at hi;subst hi;exact .inr (Nat.le_succ _)));have ab:=HB.o.kept aa Wz;clear c0 c1 c2 c3 c4;obtain⟨c0,c1,c2,c3,c4⟩:=ab;obtain⟨d0,d1,d2,d3,d4⟩:=hb;have t1:(v.num == m)=decide (v.num=m):=rfl;have t2:=str_beq v.s s;have t3:=nat_beq v.l.length l;have t4:=nat_beq v.m.length k;clear aa;unfold xC at HP;revert HP t1 t2 t3 t4;generalize decide (v.num=m)=q1;generalize decide (v.s=s)=q2;generalize decide (v.l.length=l)=q3;generalize decide (v.m.length=k)=q4;intro HP t1 t2 t3 t4;have Z:Hid (zE v=(ok&&q1&&q2&&q3&&q4)):=HP;clear HP;cases ok;·go_wp2;go_ret;rw [Z.o];exact⟨rfl,Gg.o⟩
  cases q1
  ·go_wp2;go_ret;rw [Z.o];exact⟨rfl,Gg.o⟩
  cases q2
  ·go_wp2;go_ret;rw [Z.o];exact⟨rfl,Gg.o⟩
  cases q3
  ·go_wp2;go_ret;rw [Z.o];exact⟨rfl,Gg.o⟩
  ·go_wp2;go_ret;rw [Z.o];exact⟨bV Wz,Gg.o⟩
def WAt (w:World)(b:Nat)(d c:Nat)(r:Bool):Prop:=w.heap[b]? = some (.cells #[.int .i64 d,.int .i64 c,.bool r] 165 (0,0))
theorem WAt.kept {b c:Nat}(h:WAt w b d c r)(k:zb X w w')(a:b ∉ X):WAt w' b d c r:=k.heap h a
structure Seen {n:Nat}(v:VS (V n))(d c:Nat)(r:Bool)(k:Nat)(ks:List (V n))(D C:Nat)(R:Bool):Prop where
 hd:D=max (max d k) (k+qM (ks.map (zH n)))
 hc:C=c+1+(ks.map (zq n)).sum
 hr:R=(r || !(zE v&&ks.all (zo n)))
theorem Seen.snoc {v:VS (V n)}{c:Nat}{k:Nat}{ks:List (V n)}{D C:Nat}{R:Bool}(h:Seen v d c r k ks D C R)(x:V n)(b:1≤zH n x) : Seen v d c r k (ks++[x]) (max D (k+1+zH n x-1)) (C+zq n x) (R || !zo n x):=by
 obtain⟨a,h2,h3⟩:=h;refine⟨?_,?_,?_⟩;·rw [a,List.map_append,zaT];simp only [List.map_cons,List.map_nil,qM];omega
 ·rw [h2,List.map_append,List.sum_append];simp only [List.map_cons,List.map_nil,List.sum_cons,List.sum_nil];omega
 ·rw [h3,List.all_append];simp only [List.all_cons,List.all_nil,Bool.and_true];cases r <;> cases zE v <;> cases ks.all (zo n) <;> cases zo n x <;> rfl
theorem Seen.all {n:Nat}{v:VS (V n)}{d c:Nat}{r:Bool}{k:Nat}{D C:Nat}{R:Bool}(h:Seen v d c r k v.kids D C R) : D=max d (k+zH (n+1) v-1)∧C=c+zq (n+1) v∧R=(r || !zo (n+1) v):=by
 obtain⟨f,h2,h3⟩:=h;have b:zH (n+1) v=1+qM (v.kids.map (zH n)):=rfl;have e:zq (n+1) v=1+(v.kids.map (zq n)).sum:=rfl;have a:zo (n+1) v=(zE v&&v.kids.all (zo n)):=rfl;exact⟨Ws,Ws,by rw [h3,a]⟩
theorem depth_pos:∀ {n:Nat}(x:V n),1≤zH n x
 | 0,x=>nomatch x
 | n+1,(x:VS (V n))=>by have e1:zH (n+1) x=1+qM (x.kids.map (zH n)):=rfl;omega
theorem yk.keptX {cs:List Value}{v:VS (V n)}(h:yk (Rep n S w) S w cs v vl vm lcs mcs)(k:zb X w w')(a:∀ x,x∈X→¬ S x):yk (Rep n S w') S w' cs v vl vm lcs mcs:=
 {cells:=h.cells
  slcl:=h.slcl.kept k (fun g d b=>a g b (h.inl g d))
  alll:=h.alll.mono fun _ _ _ r=>Rep.kept r k a
  slcm:=h.slcm.kept k (fun g d b=>a g b (h.inm g d))
  allm:=h.allm.mono fun _ _ _ r=>⟨r.1,Rep.kept r.2 k a⟩
  inl:=h.inl
  inm:=h.inm
  wfk:=h.wfk
  wfn:=h.wfn }
theorem J4 (f:α→Nat)(l:List α)(j:Nat)(h:j<l.length):((l.take j).map f).sum+f l[j]≤(l.map f).sum:=by
 have a:(l.map f).sum=((l.take (j+1)).map f).sum+((l.drop (j+1)).map f).sum:=by rw [← List.sum_append,← List.map_append,List.take_append_drop]
 rw [a,xP f l j h,List.sum_append];simp only [List.sum_cons,List.sum_nil];omega
def bH (n : Nat) : Prop := ∀ (v : V n) {S : Nat → Prop} {w : World} {cs : List Value} {Wt : World} {b d c k : Nat} {r : Bool}, Rep n S w cs v → zP n v → n+k ≤ 1000 → d ≤ 100000 → c+zq n v ≤ 100000 → xH Wt → zb [] Wt w → Wt.heap.size ≤ b → WAt w b d c r → (∀ g, S g → g ≠ b) →
    Calls prog 167 #[.pointer (some ⟨b,0,none⟩),.agg cs.toArray,.int .i64 k] w fun e w'=>e = .returned (.tuple #[])∧WAt w' b (max d (k+zH n v-1)) (c+zq n v) (r || !zo n v)∧zb [b] w w'
theorem down_any_step (P:bH n):bH (n+1):=fun (v:VS (V n)) {S}{w}{cs}{Wt}{b}{d}{c}{k}{r} h hs hn hd hc ht hkt hbt hw hS=>by
  have Gu:=qI h;have Gm:=qI hs;have HT:=qI ht;have Jj:=qI hkt;have HW:=qI hw;have Jg:=qI hS;obtain⟨vl,vm,lcs,mcs,h⟩:=h;obtain⟨a,ca,ba,ea,rfl,rfl,rfl⟩:=h.forms;have H:=qI h;have IH:=qI P;have ah:v.l.length≤20000:=XC hs.few;have af:v.m.length≤20000:=XC hs.few;have ag:b<w.heap.size:=lt_of_block hw;obtain⟨L,Gl⟩:=XE (w.alloc (.cells #[.int .i64 v.kind,.int .i64 v.num,.string v.s,.slice a v.l.length ca,.slice ba v.m.length ea] 25));have Gc:Hid (zb [] w L):=qI (kA1 Gl.o);have Jk:Hid (yZ L w.heap.size v.kind v.num v.s (.slice a v.l.length ca) (.slice ba v.m.length ea)):=qI (by rw [Gl.o];exact xr w v.kind v.num v.s (.slice a v.l.length ca) (.slice ba v.m.length ea) 25);have Q:Hid (L.heap[b]? = some (.cells #[.int .i64 d,.int .i64 c,.bool r] 165 (0,0))):=qI (Gc.o.heap hw Wz);obtain⟨c0,c1,c2,c3,c4⟩:=Jk.o;clear h hs ht hkt hw hS;go_enter func167,ntmps167;go_upto_region 1 with fail;rw [← Gl.o];have w0:=za (o:=0) (v:=.int .i64 d) Q.o rfl;have w1:=za (o:=1) (v:=.int .i64 c) Q.o rfl;have w2:=za (o:=2) (v:=.bool r) Q.o rfl;have f0:=zh (o:=0) Q.o;have f1:=zh (o:=1) Q.o;have f2:=zh (o:=2) Q.o;go_upto_region 2 with fail;have J:=qI (zd (v:=.int .i64 ((c:Int)+1)) (i:=1) Q.o rfl);have Gr:Hid (zb [b] L (L.setCell ⟨b,1,none⟩ (.int .i64 ((c:Int)+1)))):=qI (Wd.setCell (.inl Wz) _);clear w0 w1 w2 f0 f1 f2;revert J Gr;generalize L.setCell ⟨b,1,none⟩ (.int .i64 ((c:Int)+1))=W1;intro J Gr;have w0:=za (o:=0) (v:=.int .i64 d) J.o rfl;have w1:=za (o:=1) (v:=.int .i64 ((c:Int)+1)) J.o rfl;have w2:=za (o:=2) (v:=.bool r) J.o rfl;have f0:=zh (o:=0) J.o;have f1:=zh (o:=1) J.o;have f2:=zh (o:=2) J.o;go_upto_region 3 with fail;rw [show max (d:Int) (k:Int)=((max d k:Nat):Int) by omega];have q:=qI (zd (v:=.int .i64 ((max d k:Nat):Int)) (i:=0) J.o rfl);have G:Hid (zb [b] L (W1.setCell ⟨b,0,none⟩ (.int .i64 ((max d k:Nat):Int)))):=qI (Gr.o.setCell (.inl Wz) _);clear w0 w1 w2 f0 f1 f2 J Gr c0 c1 c2 c3 c4;revert q G;generalize W1.setCell ⟨b,0,none⟩ (.int .i64 ((max d k:Nat):Int))=W2;intro q G;have Gw:Hid (zb [b] w W2):=qI ((Gc.o.mono Wz).trans' G.o);have Gs:Hid (Rep (n+1) S W2 [.int .i64 v.kind,.int .i64 v.num,.string v.s,.slice a v.l.length ca,.slice ba v.m.length ea] v):=qI (Gu.o.kept Gw.o (fun g hg ae=>Jg.o g ae (by simpa using hg)));have Jo:Hid (xH W2):=qI (HT.o.k0 (Jj.o.trans Gw.o (fun i M=>by simp at M;subst M;exact .inr hbt)));have E:w.heap.size≠b:=Ws;obtain⟨c0,c1,c2,c3,c4⟩:=Jk.o.kept G.o (by simpa using E);go_cut [] from 26 to 37 (fun wr=>WAt wr b (max d k) (c+1) (r || !zE v)∧zb [b] L wr);case first=>
   cases r with
   | true=>have w0:=za (o:=0) (v:=.int .i64 ((max d k:Nat):Int)) q.o rfl;have w1:=za (o:=1) (v:=.int .i64 ((c:Int)+1)) q.o rfl;have w2:=za (o:=2) (v:=.bool true) q.o rfl;have f0:=zh (o:=0) q.o;have f1:=zh (o:=1) q.o;have f2:=zh (o:=2) q.o;go_wp2;go_meet;exact⟨zd q.o rfl,G.o.setCell (.inl Wz) _⟩
   | false=>have CP:=qI (plain_any Gs.o Gm.o Jo.o);have w2:=za (o:=2) (v:=.bool false) q.o rfl;go_wp2_with (go_at_call 203;refine CP.o.mono ?_;rintro e w3 ⟨rfl,U⟩;have Jl:=qI (U.heap q.o Wz);have Gj:=qI U;clear U w2;have w2:=za (o:=2) (v:=.bool false) Jl.o rfl;have f2:=zh (o:=2) Jl.o);go_meet;exact⟨zd Jl.o Wz,(G.o.then Gj.o).setCell (.inl Wz) _⟩
  case rest=>
   obtain⟨aa,N⟩:=hcut;clear q G Gw Gs Jo c0 c1 c2 c3 c4;have Ju:=qI aa;have Jp:Hid (zb [b] w wc):=qI ((Gc.o.mono Wz).trans' N);have Jq:=qI (Jk.o.kept N (by simpa using E));have HX:Hid (∀ {wr},zb [b] w wr→yk (Rep n S wr) S wr _ v _ _ lcs mcs):=qI fun k=>H.o.keptX k (fun x hx ad=>Jg.o x ad (by simpa using hx))
   have Jr:Hid (zq (n+1) v=1+((v.l.map (zq n)).sum+(v.m.map (fun p=>zq n p.2)).sum)):=qI (by rw [← jn];rfl);have Jm:Hid (Seen v d c r k [] (max d k) (c+1) (r || !zE v)):=qI ⟨by simp [qM],Wz,Wz⟩;clear aa N;obtain⟨c0,c1,c2,c3,c4⟩:=Jq.o;go_wp2_with fail;clear c0 c1 c2 c3 c4;go_loopw [41] (fun i wr=>∃ (j D C:Nat) (R:Bool),i = .int .i64 j∧j≤v.l.length∧WAt wr b D C R∧Seen v d c r k (v.l.take j) D C R∧zb [b] wc wr) (fun i _=>v.l.length-(intOf i).toNat);case atStart=>exact⟨0,_,_,_,rfl,XB,Ju.o,Jm.o,Wd⟩
   case round=>
    obtain⟨j,D,C,R,rfl,hj,B,z,t⟩:=hrel;have Z:=qI B;have I:=qI z;have X:=qI t;have W:=qI (Jp.o.trans' t);clear B z t;by_cases f:j<v.l.length
    ·have ab:(j:Int)<v.l.length:=by omega
     obtain⟨g,o,cap,kd,nm,st,a1,b1,he,q0,q1,q2,q3,q4,O⟩:=(HX.o W.o).at_l Wd j f;simp only [Value.slice.injEq] at he;obtain⟨rfl,-,rfl⟩:=he;obtain⟨p1,i1,d1,p2,i2,d2,rfl,rfl⟩:=O.sl;have hD:D≤100000:=by rw [I.o.hd];have:qM ((v.l.take j).map (zH n))≤n:=bt.2 (fun x hx=>by obtain⟨y,_,rfl⟩:=List.mem_map.1 hx;exact jb n y);omega
     have hC:C+zq n v.l[j]≤100000:=by rw [I.o.hc];have:=J4 (zq n) v.l j f;have:=Jr.o;omega
     have u:=qI ((zb.refl [] wr).alloc (.cells #[.int .i64 kd,.int .i64 nm,.string st,.slice p1 i1 d1,.slice p2 i2 d2] 25));have K:=qI (IH.o v.l[j] (O.k0 u.o) (Gm.o.kid (je (List.getElem_mem f))) (k:=k+1) Ws hD hC HT.o ((Jj.o.trans W.o (fun i M=>by simp at M;subst M;exact .inr hbt)).then u.o) hbt (Z.o.kept u.o Wz) Jg.o);rw [show ((k+1:Nat):Int)=(k:Int)+1 from rfl] at K;have Gy:=qI (I.o.snoc v.l[j] (depth_pos _));have Y:Hid (v.l.take (j+1)=v.l.take j++[v.l[j]]):=qI (List.take_succ_eq_append_getElem f);clear O hD hC;go_wp2_with (go_at_call 167;refine K.o.mono ?_;rintro e w2 ⟨rfl,A,F⟩;have q:=qI A;have G:=qI F;clear A F);case roundEnd=>exact⟨⟨j+1,_,_,_,by go_num,Ws,q.o,by rw [Y.o];exact Gy.o,(X.o.then u.o).trans' G.o⟩,by simp [intOf];omega⟩
    ·obtain rfl:j=v.l.length:=by omega
     obtain⟨c0,c1,c2,c3,c4⟩:=Jq.o.kept X.o (by simpa using E);have Jc:Hid (Seen v d c r k (v.l++(v.m.take 0).map (fun p=>p.2)) D C R):=qI (by have:=I.o;rw [List.take_length] at this;simpa using this);have Jd:=qI Z.o;have Je:=qI X.o;clear I Z X W;go_wp2_with fail;clear c0 c1 c2 c3 c4;go_loopw [54] (fun i wr=>∃ (j D C:Nat) (R:Bool),i = .int .i64 j∧j≤v.m.length∧WAt wr b D C R∧Seen v d c r k (v.l++(v.m.take j).map (fun p=>p.2)) D C R∧zb [b] wc wr) (fun i _=>v.m.length-(intOf i).toNat);case atStart=>exact⟨0,_,_,_,rfl,XB,Jd.o,Jc.o,Je.o⟩
     case round=>
      obtain⟨j,D,C,R,rfl,hj,B,z,t⟩:=hrel;clear Jc Jd Je;have Z:=qI B;have I:=qI z;have X:=qI t;have W:=qI (Jp.o.trans' t);clear B z t;by_cases f:j<v.m.length
      ·have ab:(j:Int)<v.m.length:=by omega
       obtain⟨g,o,cap,kd,nm,st,a1,b1,he,q0,q1,q2,q3,q4,q5,O⟩:=(HX.o W.o).at_m Wd j f;simp only [Value.slice.injEq] at he;obtain⟨rfl,-,rfl⟩:=he;obtain⟨p1,i1,d1,p2,i2,d2,rfl,rfl⟩:=O.sl;have hD:D≤100000:=by rw [I.o.hd];have:qM ((v.l++(v.m.take j).map (fun p=>p.2)).map (zH n))≤n:=bt.2 (fun x hx=>by obtain⟨y,_,rfl⟩:=List.mem_map.1 hx;exact jb n y);omega
       have hC:C+zq n v.m[j].2≤100000:=by rw [I.o.hc,List.map_append,List.sum_append,List.map_map];have:=J4 (fun p:ByteArray×V n=>zq n p.2) v.m j f;have:=Jr.o;have e:((v.m.take j).map (zq n ∘ fun p=>p.2)).sum=((v.m.take j).map (fun p=>zq n p.2)).sum:=rfl;omega
       have Y:Hid (v.l++(v.m.take (j+1)).map (fun p=>p.2)=(v.l++(v.m.take j).map (fun p=>p.2))++[v.m[j].2]):=qI (by rw [xP _ _ _ f,List.append_assoc]);have Gy:=qI (I.o.snoc v.m[j].2 (depth_pos _));have u:=qI ((zb.refl [] wr).alloc (.cells #[.string v.m[j].1,.int .i64 kd,.int .i64 nm,.string st,.slice p1 i1 d1,.slice p2 i2 d2] 41));have K:=qI (IH.o v.m[j].2 (O.k0 u.o) (Gm.o.kid (kN (List.getElem_mem f))) (k:=k+1) Ws hD hC HT.o ((Jj.o.trans W.o (fun i M=>by simp at M;subst M;exact .inr hbt)).then u.o) hbt (Z.o.kept u.o Wz) Jg.o);rw [show ((k+1:Nat):Int)=(k:Int)+1 from rfl] at K;clear O hD hC;revert q0 Y Gy u K;generalize v.m[j]=pr;obtain⟨key,x⟩:=pr;intro q0 Y Gy u K;simp only at q0 Y Gy u K;go_wp2_with (go_at_call 167;refine K.o.mono ?_;rintro e w2 ⟨rfl,A,F⟩;have q:=qI A;have G:=qI F;clear A F);case roundEnd=>exact⟨⟨j+1,_,_,_,by go_num,Ws,q.o,by rw [Y.o];exact Gy.o,(X.o.then u.o).trans' G.o⟩,by simp [intOf];omega⟩
      ·obtain rfl:j=v.m.length:=by omega
       have Jv:Hid (Seen v d c r k v.kids D C R):=qI (by have:=I.o;rw [List.take_length] at this;exact this);obtain⟨e1,e2,e3⟩:=Jv.o.all;have Jn:Hid (WAt wr b (max d (k+zH (n+1) v-1)) (c+zq (n+1) v) (r || !zo (n+1) v)):=qI (by rw [← e1,← e2,← e3];exact Z.o);clear e1 e2 e3;go_wp2_with fail;go_end0;exact⟨rfl,Jn.o,W.o⟩
theorem YW:∀ (n:Nat),bH n
 | 0=>fun v {_}{_}{_}{_}{_}{_}{_}{_}{_} h _ _ _ _ _ _ _ _ _=>h.elim
 | n+1=>down_any_step (YW n)
theorem down_any:∀ (n:Nat) (v:V n) {S:Nat→Prop}{w:World}{cs:List Value}{Wt:World}{b d c k:Nat}{r:Bool},Rep n S w cs v→zP n v→n+k≤1000→d≤100000→c+zq n v≤100000→xH Wt→zb [] Wt w→Wt.heap.size≤b→WAt w b d c r→(∀ g,S g→g≠b)→Calls prog 167 #[.pointer (some ⟨b,0,none⟩),.agg cs.toArray,.int .i64 k] w fun e w'=>e = .returned (.tuple #[])∧WAt w' b (max d (k+zH n v-1)) (c+zq n v) (r || !zo n v)∧zb [b] w w':=fun n=>YW n
theorem look_any {v:V n}{cs:List Value}(h:Rep n S w cs v)(l:zP n v)(L:n≤100)(y:xH w) : Calls prog 115 #[.agg cs.toArray] w fun e w'=>(∃ b,e = .returned (.pointer (some ⟨b,0,none⟩))∧WAt w' b (zH n v) (zq n v) (!zo n v))∧zb [] w w':=by
 obtain⟨kd,D,st,N,K,rfl⟩:=h.five;obtain⟨E,u,x,p2,A,t,rfl,rfl⟩:=h.sl;obtain⟨m,f⟩:=XE (w.alloc (.cells #[.int .i64 kd,.int .i64 D,.string st,.slice E u x,.slice p2 A t] 25));obtain⟨p,j⟩:=XE (m.alloc (.cells #[.int .i64 0,.int .i64 0,.bool false] 165));have G:Hid (zb [] w m):=qI (kA1 f.o);have r:Hid (zb [] w p):=qI (by rw [j.o];exact G.o.alloc _);have I:Hid (m.heap.size=w.heap.size+1):=qI (by rw [f.o];simp);have M:Hid (yZ p w.heap.size kd D st (.slice E u x) (.slice p2 A t)):=qI (by rw [j.o,f.o];exact (xr _ _ _ _ _ _ _).k0 (Wd.alloc _));have H:Hid (WAt p (w.heap.size+1) 0 0 false):=qI (by rw [j.o];exact ze I.o);have q:=l.1;have s:=qI (down_any n v ((h.mono (T:=fun g=>g<w.heap.size) (fun g B _=>B)).k0 r.o) l (k:=1) Ws (XB) Ws y r.o (Nat.le_succ _) H.o (fun g B=>by omega));clear h l y q;rw [show ((1:Nat):Int)=1 from rfl] at s;have C:Hid (max 0 (1+zH n v-1)=zH n v∧0+zq n v=zq n v):=qI Ws;go_enter func115,ntmps115;go_wp2_with fail;rw [← f.o,← j.o];refine s.o.mono ?_;rintro e w2 ⟨rfl,a,d⟩;have F:Hid (WAt w2 (w.heap.size+1) (zH n v) (zq n v) (!zo n v)):=qI (by rw [C.o.1,C.o.2] at a;simpa using a);have J:=qI d;clear a d;go_wp2;go_ret;exact⟨⟨_,rfl,F.o⟩,r.o.trans J.o (fun i z=>by simp at z;subst z;exact .inr (Nat.le_succ _))⟩
theorem Zi {v:V n}{cs:List Value}(h:Rep n S w cs v)(s:zP n v)(x:n≤100)(y:xH w) : zJ w 62 #[.agg cs.toArray] (.int .i64 (zY n v)):=by
 obtain⟨kd,G,st,J,I,rfl⟩:=h.five;obtain⟨H,B,E,p2,F,z,rfl,rfl⟩:=h.sl;obtain⟨A,q⟩:=XE (w.alloc (.cells #[.int .i64 kd,.int .i64 G,.string st,.slice H B E,.slice p2 F z] 25));have k:Hid (zb [] w A):=qI (kA1 q.o);have j:=qI (look_any (h.k0 k.o) s x (y.k0 k.o));have r:=s.1;have p:zH n v≤100:=Nat.le_trans (jb n v) x;have m:Hid (zY n v=if 12<zH n v then 41 else if 4096<zq n v then 42 else if zo n v then 0 else 40):=qI rfl;clear h s y;revert j r p m;generalize zH n v=D;generalize zq n v=C;generalize zo n v=R;generalize zY n v=K;intro j r p m;by_cases l:12<D
 ·have t:(12:Int)<D:=by omega
  have f:Hid (K=41):=qI (by rw [m.o,if_pos l]);go_enter func62,ntmps62;go_wp2_with fail;rw [← q.o];refine j.o.mono ?_;rintro e w2 ⟨⟨b,rfl,a⟩,d⟩;have c0:=za (o:=0) (v:=.int .i64 D) a rfl;have c1:=za (o:=1) (v:=.int .i64 C) a rfl;have c2:=za (o:=2) (v:=.bool (!R)) a rfl;have i:=qI (k.o.then d);clear a d;go_wp2;go_ret;rw [f.o];exact⟨rfl,i.o⟩
 have t:¬ (12:Int)<D:=Ws;by_cases h2:4096<C
 ·have u:(4096:Int)<C:=by omega
  have f:Hid (K=42):=qI (by rw [m.o,if_neg l,if_pos h2]);go_enter func62,ntmps62;go_wp2_with fail;rw [← q.o];refine j.o.mono ?_;rintro e w2 ⟨⟨b,rfl,a⟩,d⟩;have c0:=za (o:=0) (v:=.int .i64 D) a rfl;have c1:=za (o:=1) (v:=.int .i64 C) a rfl;have c2:=za (o:=2) (v:=.bool (!R)) a rfl;have i:=qI (k.o.then d);clear a d;go_wp2;go_ret;rw [f.o];exact⟨rfl,i.o⟩
 have u:¬ (4096:Int)<C:=Ws;cases R with
 | true=>have f:Hid (K=0):=qI (by rw [m.o,if_neg l,if_neg h2,if_pos rfl]);clear l h2;go_enter func62,ntmps62;go_wp2_with fail;rw [← q.o];refine j.o.mono ?_;rintro e w2 ⟨⟨b,rfl,a⟩,d⟩;have c0:=za (o:=0) (v:=.int .i64 D) a rfl;have c1:=za (o:=1) (v:=.int .i64 C) a rfl;have c2:=za (o:=2) (v:=.bool false) a rfl;have i:=qI (k.o.then d);clear a d;go_wp2;go_ret;rw [f.o];exact⟨rfl,i.o⟩
 | false=>have f:Hid (K=40):=qI (by rw [m.o,if_neg l,if_neg h2,if_neg Wz]);clear l h2;go_enter func62,ntmps62;go_wp2_with fail;rw [← q.o];refine j.o.mono ?_;rintro e w2 ⟨⟨b,rfl,a⟩,d⟩;have c0:=za (o:=0) (v:=.int .i64 D) a rfl;have c1:=za (o:=1) (v:=.int .i64 C) a rfl;have c2:=za (o:=2) (v:=.bool true) a rfl;have i:=qI (k.o.then d);clear a d;go_wp2;go_ret;rw [f.o];exact⟨rfl,i.o⟩
def Qr (n:Nat):Prop:=∀ (x y:V n) {S T:Nat→Prop}{w:World}{ca cb:List Value},Rep n S w ca x→Rep n T w cb y→zP n x →
 Calls prog 67 #[.agg ca.toArray,.agg cb.toArray] w fun e w'=>e = .returned (.bool (eqV n x y))∧zb [] w w'
theorem eqvals_any (M:Qr n){D:Value}{c:Nat}(h:yk (Rep n S w) S w ca va (.slice a va.l.length c) vm lcs mcs)(G:yk (Rep n T w) T w cb vb (.slice b vb.l.length d) D lcs' mcs')(y:zP (n+1) va) : zJ w 118 #[.slice a va.l.length c,.slice b vb.l.length d,.func (.func 67) #[] #[]] (.bool (eqL (eqV n) va.l vb.l)):=by
 have ab:va.l.length≤20000:=XC y.few;by_cases f:va.l.length=vb.l.length;rotate_left;·obtain⟨K,Y⟩:=jQ f;have HF:Hid (eqL (eqV n) va.l vb.l=false):=qI (KI f);clear f h G y;go_enter func118,ntmps118;go_wp2;go_ret;rw [HF.o];exact⟨rfl,Wd⟩
 obtain⟨K,Y⟩:=YT f;have L:=qI f;have H:=qI h;have H':=qI G;have Gm:=qI y;have IH:=qI M;have Z:(vb.l.length:Int)≤20000:=Ws;clear f h G y M;go_enter func118,ntmps118;go_wp2_with fail;clear K Y;go_loopw [17] (fun i wr=>∃ k:Nat,i = .int .i64 k∧k≤va.l.length∧eqL (eqV n) (va.l.drop k) (vb.l.drop k)=eqL (eqV n) va.l vb.l∧zb [] w wr) (fun i _=>va.l.length-(intOf i).toNat);case atStart=>exact⟨0,rfl,XB,rfl,Wd⟩
 case round=>
  obtain⟨k,rfl,hk,X,u⟩:=hrel;have I:=qI X;have v:=qI u;clear X u;by_cases m:k<va.l.length
  ·have U:(k:Int)<va.l.length:=by omega
   have j:k<vb.l.length:=XC L.o;have B:(k:Int)<vb.l.length:=Ws;obtain⟨g,o,cap,kd,nm,st,a1,b1,t,q0,q1,q2,q3,q4,E⟩:=H.o.at_l v.o k m;simp only [Value.slice.injEq] at t;obtain⟨rfl,-,rfl⟩:=t;obtain⟨p1,i1,d1,p2,i2,d2,rfl,rfl⟩:=E.sl;obtain⟨g',o',R,C,F,J,aa,ad,t,O,N,Q,W,P,p⟩:=H'.o.at_l v.o k j;simp only [Value.slice.injEq] at t;obtain⟨rfl,-,rfl⟩:=t;obtain⟨p3,i3,d3,p4,i4,d4,rfl,rfl⟩:=p.sl;have s:=qI ((zb.refl [] wr).alloc (.cells #[.int .i64 kd,.int .i64 nm,.string st,.slice p1 i1 d1,.slice p2 i2 d2] 25));have z:=qI (s.o.alloc (.cells #[.int .i64 C,.int .i64 F,.string J,.slice p3 i3 d3,.slice p4 i4 d4] 25));have y0:=s.o.cell O Wz;have y1:=s.o.cell N Wz;have y2:=s.o.cell Q Wz;have y3:=s.o.cell W Wz;have y4:=s.o.cell P Wz;have x:=qI (IH.o va.l[k] vb.l[k] (E.k0 z.o) (p.k0 z.o) (Gm.o.kid (je (List.getElem_mem m))));have A:=qI (Ko (r:=eqV n) m j);clear E p O N Q W P;revert x A;generalize eqV n va.l[k] vb.l[k]=r;intro x A;cases r;·go_wp2_with (go_at_call 67;refine x.o.mono ?_;rintro e w2 ⟨rfl,q⟩);go_ret;rw [← I.o,A.o];exact⟨Wz,(v.o.then z.o).then q⟩
   ·go_wp2_with (go_at_call 67;refine x.o.mono ?_;rintro e w2 ⟨rfl,q⟩);case roundEnd=>refine⟨⟨k+1,by go_num,Ws,?_,(v.o.then z.o).then q⟩,by simp [intOf];omega⟩;rw [← I.o,A.o];simp
  ·obtain rfl:k=va.l.length:=by omega
   go_wp2;go_ret;rw [← I.o,zav L.o];exact⟨rfl,v.o⟩
theorem eqpair_any (q:Qr n){x y:V n}{ka kb:ByteArray}(h:Rep n S w ca x)(d:Rep n T w cb y)(p:zP n x) : zJ w 117 #[.agg (.string ka::ca).toArray,.agg (.string kb::cb).toArray] (.bool (decide (ka=kb)&&eqV n x y)):=by
 obtain⟨kd,H,st,M,L,rfl⟩:=h.five;obtain⟨K,v,z,p2,D,u,rfl,rfl⟩:=h.sl;obtain⟨i,k,m,E,G,rfl⟩:=d.five;obtain⟨p3,A,B,I,t,C,rfl,rfl⟩:=d.sl;obtain⟨F,f⟩:=XE ((w.alloc (.cells #[.string ka,.int .i64 kd,.int .i64 H,.string st,.slice K v z,.slice p2 D u] 41)).alloc (.cells #[.string kb,.int .i64 i,.int .i64 k,.string m,.slice p3 A B,.slice I t C] 41));have b:Hid (zb [] w F):=qI (kA2 f.o);have s:=qI (q x y (h.k0 b.o) (d.k0 b.o) p);clear h d p q;by_cases a:ka=kb;·obtain⟨r,J⟩:=vu a;have l:Hid ((decide (ka=kb)&&eqV n x y)=eqV n x y):=qI (by rw [decide_eq_true a,Bool.true_and]);clear a;go_enter func117,ntmps117;go_wp2_with fail;rw [← f.o];refine s.o.mono ?_;rintro e w2 ⟨rfl,j⟩;go_wp2;go_ret;rw [l.o];exact⟨Wz,b.o.then j⟩
 ·obtain⟨r,J⟩:=jS a;have l:Hid ((decide (ka=kb)&&eqV n x y)=false):=qI (by rw [decide_eq_false a,Bool.false_and]);clear a;go_enter func117,ntmps117;go_wp2;go_ret;rw [l.o,← f.o];exact⟨rfl,b.o⟩
theorem eqpairs_any (U:Qr n){J:Value}{c:Nat}(h:yk (Rep n S w) S w ca va vl (.slice a va.m.length c) lcs mcs)(L:yk (Rep n T w) T w cb vb J (.slice b vb.m.length d) lcs' mcs')(D:zP (n+1) va) : zJ w 119 #[.slice a va.m.length c,.slice b vb.m.length d,.func (.func 117) #[] #[]] (.bool (eqL (fun p q:ByteArray×V n=>decide (p.1=q.1)&&eqV n p.2 q.2) va.m vb.m)):=by
 have af:va.m.length≤20000:=XC D.few;by_cases f:va.m.length=vb.m.length;rotate_left;·obtain⟨O,f2⟩:=jQ f;have HF:Hid (eqL (fun p q:ByteArray×V n=>decide (p.1=q.1)&&eqV n p.2 q.2) va.m vb.m=false):=qI (KI f);clear f h L D;go_enter func119,ntmps119;go_wp2;go_ret;rw [HF.o];exact⟨rfl,Wd⟩
 obtain⟨O,f2⟩:=YT f;have P:=qI f;have H:=qI h;have H':=qI L;have Gm:=qI D;have IH:=qI U;have ad:(vb.m.length:Int)≤20000:=Ws;clear f h L D U;go_enter func119,ntmps119;go_wp2_with fail;clear O f2;go_loopw [17] (fun i wr=>∃ k:Nat,i = .int .i64 k∧k≤va.m.length∧eqL (fun p q:ByteArray×V n=>decide (p.1=q.1)&&eqV n p.2 q.2) (va.m.drop k) (vb.m.drop k)=eqL (fun p q:ByteArray×V n=>decide (p.1=q.1)&&eqV n p.2 q.2) va.m vb.m∧zb [] w wr) (fun i _=>va.m.length-(intOf i).toNat);case atStart=>exact⟨0,rfl,XB,rfl,Wd⟩
 case round=>
  obtain⟨k,rfl,hk,hg,A⟩:=hrel;have M:=qI hg;have B:=qI A;clear hg A;by_cases s:k<va.m.length
  ·have ab:(k:Int)<va.m.length:=by omega
   have l:k<vb.m.length:=XC P.o;have F:(k:Int)<vb.m.length:=Ws;obtain⟨g,o,cap,kd,nm,st,a1,b1,z,q0,q1,q2,q3,q4,q5,I⟩:=H.o.at_m B.o k s;simp only [Value.slice.injEq] at z;obtain⟨rfl,-,rfl⟩:=z;obtain⟨p1,i1,d1,p2,i2,d2,rfl,rfl⟩:=I.sl;obtain⟨g',o',aa,G,K,N,ae,ag,z,X,W,r2,r3,Y,R,t⟩:=H'.o.at_m B.o k l;simp only [Value.slice.injEq] at z;obtain⟨rfl,-,rfl⟩:=z;obtain⟨p3,i3,d3,p4,i4,d4,rfl,rfl⟩:=t.sl;have j:=qI ((zb.refl [] wr).alloc (.cells #[.string va.m[k].1,.int .i64 kd,.int .i64 nm,.string st,.slice p1 i1 d1,.slice p2 i2 d2] 41));have v:=qI (j.o.alloc (.cells #[.string vb.m[k].1,.int .i64 G,.int .i64 K,.string N,.slice p3 i3 d3,.slice p4 i4 d4] 41));have y0:=j.o.cell X Wz;have Z:=j.o.cell W Wz;have y2:=j.o.cell r2 Wz;have Q:=j.o.cell r3 Wz;have y4:=j.o.cell Y Wz;have y5:=j.o.cell R Wz;have C:=qI (eqpair_any IH.o (ka:=va.m[k].1) (kb:=vb.m[k].1) (I.k0 v.o) (t.k0 v.o) (Gm.o.kid (kN (List.getElem_mem s))));have E:=qI (Ko (r:=fun p q:ByteArray×V n=>decide (p.1=q.1)&&eqV n p.2 q.2) s l);clear I t X W r2 r3 Y R;revert q0 j v y0 Z y2 Q y4 y5 C E;generalize va.m[k]=x;generalize vb.m[k]=y;obtain⟨ka,x⟩:=x;obtain⟨kb,y⟩:=y;simp only;generalize (decide (ka=kb)&&eqV n x y)=r;intro q0 j v y0 Z y2 Q y4 y5 C E;cases r;·go_wp2_with (go_at_call 117;refine C.o.mono ?_;rintro e w2 ⟨rfl,u⟩);go_ret;rw [← M.o,E.o];exact⟨Wz,(B.o.then v.o).then u⟩
   ·go_wp2_with (go_at_call 117;refine C.o.mono ?_;rintro e w2 ⟨rfl,u⟩);case roundEnd=>refine⟨⟨k+1,by go_num,Ws,?_,(B.o.then v.o).then u⟩,by simp [intOf];omega⟩;rw [← M.o,E.o];simp
  ·obtain rfl:k=va.m.length:=by omega
   go_wp2;go_ret;rw [← M.o,zav P.o];exact⟨rfl,B.o⟩
theorem zbd (v:Qr n):Qr (n+1):=fun (va:VS (V n)) (vb:VS (V n)) {S T w ca cb} h x hs=>by
  have Gu:=qI h;have Y:=qI x;have M:=qI hs;have O:=qI v;obtain⟨vl,vm,lcs,mcs,h⟩:=h;obtain⟨a,c,b,e,rfl,rfl,rfl⟩:=h.forms;obtain⟨X,U,lcs',mcs',x⟩:=x;obtain⟨I,J,K,e',rfl,rfl,rfl⟩:=x.forms;obtain⟨F,r⟩:=XE ((w.alloc (.cells #[.int .i64 va.kind,.int .i64 va.num,.string va.s,.slice a va.l.length c,.slice b va.m.length e] 25)).alloc (.cells #[.int .i64 vb.kind,.int .i64 vb.num,.string vb.s,.slice I vb.l.length J,.slice K vb.m.length e'] 25));have t:Hid (zb [] w F):=qI (kA2 r.o);have W:Hid (yZ F w.heap.size va.kind va.num va.s (.slice a va.l.length c) (.slice b va.m.length e)):=qI (by rw [r.o];exact (xr w _ _ _ _ _ _).k0 ((zb.refl [] _).alloc _));have R:Hid (yZ F (w.heap.size+1) vb.kind vb.num vb.s (.slice I vb.l.length J) (.slice K vb.m.length e')):=qI (by rw [r.o];exact jq Wz _ _ _ _ _ _);have N:Hid (∀ {wr},zb [] w wr→yk (Rep n S wr) S wr _ va _ _ lcs mcs):=qI fun k=>h.keptX k Wz;have L:Hid (∀ {wr},zb [] w wr→yk (Rep n T wr) T wr _ vb _ _ lcs' mcs'):=qI fun k=>x.keptX k Wz;have C:=qI (eqV_eq va vb);have B:=qI (eqvals_any O.o (N.o t.o) (L.o t.o) M.o);have E:Hid (∀ wr,zb [] w wr→_):=qI fun wr (k:zb [] w wr)=>eqpairs_any O.o (N.o k) (L.o k) M.o;clear h x hs;by_cases d:va.kind=vb.kind;rotate_left;·obtain⟨H,Q⟩:=zR d;have z:Hid (eqV (n+1) va vb=false):=qI (by rw [C.o];simp [d]);clear d;go_enter func67,ntmps67;go_wp2;go_ret;rw [z.o,← r.o];exact⟨rfl,t.o⟩
  obtain⟨g1,g2⟩:=xw d;have u:=qI d;clear d;by_cases i:va.num=vb.num;rotate_left;·obtain⟨H,Q⟩:=zR i;have z:Hid (eqV (n+1) va vb=false):=qI (by rw [C.o];simp [i]);clear i;go_enter func67,ntmps67;go_wp2;go_ret;rw [z.o,← r.o];exact⟨rfl,t.o⟩
  obtain⟨Z,g4⟩:=xw i;have A:=qI i;clear i;by_cases f:va.s=vb.s;rotate_left;·obtain⟨H,Q⟩:=jS f;have z:Hid (eqV (n+1) va vb=false):=qI (by rw [C.o];simp [f]);clear f;go_enter func67,ntmps67;go_wp2;go_ret;rw [z.o,← r.o];exact⟨rfl,t.o⟩
  obtain⟨g5,g6⟩:=vu f;have y:=qI f;clear f;have D:Hid (eqV (n+1) va vb=(eqL (eqV n) va.l vb.l&&eqL (fun p q=>decide (p.1=q.1)&&eqV n p.2 q.2) va.m vb.m)):=qI (by rw [C.o];simp [u.o,A.o,y.o]);revert B E D;generalize eqL (eqV n) va.l vb.l=r1;generalize eqL (fun p q=>decide (p.1=q.1)&&eqV n p.2 q.2) va.m vb.m=r2;intro B E D;cases r1 with
  | false=>go_enter func67,ntmps67;go_wp2_with fail;rw [← r.o];refine B.o.mono ?_;rintro e w2 ⟨rfl,j⟩;go_wp2;go_ret;rw [D.o];exact⟨rfl,t.o.then j⟩
  | true=>go_enter func67,ntmps67;go_wp2_with fail;rw [← r.o];refine B.o.mono ?_;rintro e w2 ⟨rfl,j⟩;have P:=qI (t.o.then j);obtain⟨c0,c1,c2,c3,c4⟩:=W.o.k0 j;obtain⟨d0,d1,d2,d3,d4⟩:=R.o.k0 j;clear j;go_wp2_with fail;refine (E.o _ P.o).mono ?_;rintro e w3 ⟨rfl,G⟩;go_wp2;go_ret;rw [D.o];exact⟨Wz,P.o.then G⟩
theorem equal_any:∀ (n:Nat),Qr n
 | 0=>fun x=>nomatch x
 | n+1=>zbd (equal_any n)
end Go.Proofs.YtjccecajigmfkaaGreatDoor

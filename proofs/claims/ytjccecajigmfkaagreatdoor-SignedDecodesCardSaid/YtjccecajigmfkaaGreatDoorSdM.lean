/- Parts of one proof, merged: XKI. -/
import Derived.Test.YtjccecajigmfkaaGreatDoorSdI
set_option linter.all false
set_option maxHeartbeats 12800000
set_option maxRecDepth 100000
namespace Go.Proofs.YtjccecajigmfkaaGreatDoor
open Go.Proofs.Tryz
open Go.RowKit
variable {α:Type}{v:VS α}
def xG {α:Type}(v:VS α)(ok:Bool)(m:Int)(s:ByteArray)(l k:Nat):Prop:=zy v=(ok&&decide (v.num=m)&&decide (v.s=s)&&decide (v.l.length=l)&&decide (v.m.length=k))
theorem str_beq (a b:ByteArray):(a.toList == b.toList)=decide (a=b):=by
 by_cases h:a=b;·rw [(jv h).1,XT h]
 ·rw [(k7 h).1,XO h]
theorem nat_beq (a b:Nat):((a:Int) == (b:Int))=decide (a=b):=by
 by_cases h:a=b;·rw [(Qm h).1,XT h]
 ·rw [(ve h).1,XO h]
theorem plain_1 (h:v.kind=1):xG v true 0 ⟨#[]⟩ 0 0:=by
 unfold xG zy ZC;simp only [kK];rw [h];simp
theorem plain_2 (h:v.kind=2):xG v (decide (v.num=0∨v.num=1)) v.num ⟨#[]⟩ 0 0:=by
 unfold xG zy ZC;simp only [kK];rw [h];simp
theorem plain_3 (h:v.kind=3):xG v (decide (-9007199254740991≤v.num∧v.num≤9007199254740991)) v.num ⟨#[]⟩ 0 0:=by
 unfold xG zy ZC;simp only [kK];rw [h];simp
theorem plain_4 (h:v.kind=4):xG v (zv v.s) 0 v.s 0 0:=by
 unfold xG zy ZC;simp only [kK];rw [h];simp [Bool.and_assoc]
theorem plain_5 (h:v.kind=5):xG v true 0 ⟨#[]⟩ v.l.length 0:=by
 unfold xG zy ZC;simp only [kK];rw [h];simp
theorem plain_6 (h:v.kind=6):xG v (xe v.m) 0 ⟨#[]⟩ 0 v.m.length:=by
 unfold xG zy ZC;simp only [kK];rw [h];simp
theorem plain_else (h:¬ (v.kind=1∨v.kind=2∨v.kind=3∨v.kind=4∨v.kind=5∨v.kind=6)):zy v=false:=by
 unfold zy;rw [XJ Ws,XJ Ws,XJ Ws,XJ Ws,XJ Ws,XJ Ws]
theorem plain_any {n:Nat}{v:VS (V n)}{S:Nat→Prop}{w:World}{cs:List Value}(h:Rep (n+1) S w cs v)(hs:zP (n+1) v)(ht:xS w) : zG w 203 #[.agg cs.toArray] (.bool (zy v)):=by
 have Gm:=qI h;have Gn:=qI hs;have HT:=qI ht;obtain⟨vl,vm,lcs,mcs,h⟩:=h;obtain⟨a,c,b,e,rfl,rfl,rfl⟩:=h.forms;have H:=qI h;obtain⟨z,Gh⟩:=XE ((w.alloc (.cells #[.int .i64 v.kind,.int .i64 v.num,.string v.s,.slice a v.l.length c,.slice b v.m.length e] 25)).alloc (.cells #[.int .i64 v.kind,.int .i64 0,.string ⟨#[]⟩,.slice none 0 0,.slice none 0 0] 25));have HB:Hid (yA z w.heap.size v.kind v.num v.s (.slice a v.l.length c) (.slice b v.m.length e)):=qI (by rw [Gh.o];exact (xr w v.kind v.num v.s (.slice a v.l.length c) (.slice b v.m.length e) 25).k0 (Wd.alloc _));have W:Hid (zb [] w z):=qI (kA2 Gh.o);have L:Hid (z.heap[w.heap.size+1]? = some (.cells (xD v.kind 0 ⟨#[]⟩ (.slice none 0 0) (.slice none 0 0)) 25 (0,0))):=qI (by rw [Gh.o];exact zd Wz);have ab:(v.s.size:Int)≤400000:=by have:=hs.2;have e:zW (n+1) v=v.s.size+v.keyBytes+(v.kids.map (zW n)).sum:=rfl;omega
 have Gl:Hid (∀ p,p∈v.m→p.1.size≤400000):=qI fun p hp=>X7 (key_le hp) hs.2;have HM:Hid (v.m.length≤20000):=qI (XC hs.few);have Gi:Hid (∀ {w'},zb [] w w'→yj (Rep n S w') S w' _ v _ _ lcs mcs):=qI fun k=>{ cells:=h.cells,slcl:=h.slcl.k0 k,alll:=h.alll.mono fun _ _ _ r=>r.k0 k,slcm:=h.slcm.k0 k,allm:=h.allm.mono fun _ _ _ r=>⟨r.1,r.2.k0 k⟩,inl:=h.inl,inm:=h.inm,wfk:=h.wfk,wfn:=h.wfn };obtain⟨c0,c1,c2,c3,c4⟩:=HB.o;rw [Gh.o] at c0 c1 c2 c3 c4;clear h hs ht;go_enter func203,ntmps203;go_upto_block 0 with fail;rw [← Gh.o];rw [← Gh.o] at c0 c1 c2 c3 c4;go_cut [4] from 10 to 58 (fun q wr=>∃ (ok:Bool) (m:Int) (s:ByteArray) (l k:Nat) (al am:Option Addr) (cl cm:Nat),q = .bool ok∧zb [w.heap.size+1] z wr∧yA wr (w.heap.size+1) v.kind m s (.slice al l cl) (.slice am k cm)∧Hid (xG v ok m s l k));case first=>
  by_cases N:v.kind=1;·have f1:=(yq N).1;have F:=qI (plain_1 N);clear N;go_wp2;go_meet;exact⟨true,0,⟨#[]⟩,0,0,_,_,_,_,rfl,Wd,⟨za L.o rfl,za L.o rfl,za L.o rfl,za L.o rfl,za L.o rfl⟩,F⟩
  have f1:=(zq N).1;by_cases P:v.kind=2
  ·have f2:=(yq P).1;have F:=qI (plain_2 P);by_cases Q:v.num=0
   ·have g1:=(yq Q).1;have F:Hid (xG v true v.num ⟨#[]⟩ 0 0):=qI (by have:=F.o;rw [XT (.inl Q)] at this;exact this);clear N P Q;go_wp2_with fail;refine zu (n:=13) (fun w':World=>w'.cell? ⟨w.heap.size,1,none⟩=some (.int .i64 v.num)) 12 Wr Wr ?_;change zT _ _ _ _ _ _ _ _ _ z.drew;have d:(fun w':World=>w'.cell? ⟨w.heap.size,1,none⟩=some (.int .i64 v.num)) z.drew:=c1;have t:z.drew.heap[w.heap.size+1]? = some (.cells (xD v.kind 0 ⟨#[]⟩ (.slice none 0 0) (.slice none 0 0)) 25 (0,0)):=L.o;have C:Hid (zb [w.heap.size+1] z z.drew):=qI Wd.drew;have G:Hid (zb [] w z.drew):=qI W.o.drew;clear c0 c1 c2 c3 c4;revert d t C G;generalize z.drew=W2;intro d t C G;refine zF ?_;intro O R u I;have f:jA R:=by subst I;exact fun _ _ _ _ _ h=>h
    refine qT 0 ?_ u rfl rfl Wr f (fun w j=>?_) d ?_;rotate_left;·exact zg
    try simp only [XI]
    refine qT 1 ?_ u rfl rfl Wr f (fun w j=>?_) d ?_;rotate_left;·exact zg
    try simp only [XI]
    refine qT 2 ?_ u rfl rfl Wr f (fun w j=>?_) d ?_;rotate_left;·exact zg
    try simp only [XI]
    refine qT 3 ?_ u rfl rfl Wr f (fun w j=>?_) d ?_;rotate_left;·exact zg
    try simp only [XI]
    refine qT 4 ?_ u rfl rfl Wr f (fun w j=>?_) d ?_;rotate_left;·exact zg
    try simp only [XI]
    refine qT 5 ?_ u rfl rfl Wr f (fun w j=>?_) d ?_;rotate_left;·exact zg
    try simp only [XI]
    refine qY (i:=6) (v:=undef) u rfl rfl Wr Wr Wr Wr f (Or.inr ⟨Wr,rfl⟩) d ?_;try simp only [XI]
    refine qY (i:=7) (v:=undef) u rfl rfl Wr Wr Wr Wr f (Or.inr ⟨Wr,rfl⟩) d ?_;try simp only [XI]
    refine qY (i:=8) (v:=undef) u rfl rfl Wr Wr Wr Wr f (Or.inr ⟨Wr,rfl⟩) d ?_;try simp only [XI]
    refine qT 9 ?_ u rfl rfl Wr f (fun w j=>?_) d ?_;rotate_left;·exact zg
    try simp only [XI]
    refine qT 10 ?_ u rfl rfl Wr f (fun w j=>?_) d ?_;rotate_left;·exact zg
    try simp only [XI]
    have E:=za (o:=1) t rfl;have D:=zh (o:=1) t;refine qO 11 u rfl Wr (fun K A=>?_);go_simp;have KS:=(zb.refl [w.heap.size+1] W2).setCell (p:=⟨w.heap.size+1,1,none⟩) (.inl Wz) (.int .i64 v.num);have x:(fun w':World=>w'.cell? ⟨w.heap.size,1,none⟩=some (.int .i64 v.num)) (W2.setCell ⟨w.heap.size+1,1,none⟩ (.int .i64 v.num)):=KS.cell d Wz;have y:(W2.setCell ⟨w.heap.size+1,1,none⟩ (.int .i64 v.num)).heap[w.heap.size+1]? = some (.cells #[.int .i64 v.kind,.int .i64 v.num,.string ⟨#[]⟩,.slice none 0 0,.slice none 0 0] 25 (0,0)):=ze t rfl;have B:=qI y;have M:=qI (C.o.trans' KS);refine A _ _ (.inr x) ?_;clear A K;try simp only [XI]
    clear d E D t y KS;have d:=x;clear x;refine qO 12 u rfl Wr (fun K A=>?_);go_simp;refine A _ _ (.inl rfl) ?_;clear A K;try simp only [XI]
    refine zE u Wr ?_ _;subst I;try clear f u O
    go_wp2;go_meet;exact⟨true,v.num,⟨#[]⟩,0,0,_,_,_,_,rfl,M.o,⟨za B.o rfl,za B.o rfl,za B.o rfl,za B.o rfl,za B.o rfl⟩,F⟩
   have g1:=(zq Q).1;by_cases U:v.num=1
   ·have g2:=(yq U).1;have F:Hid (xG v true v.num ⟨#[]⟩ 0 0):=qI (by have:=F.o;rw [XT (.inr U)] at this;exact this);clear N P Q U;go_wp2_with fail;refine zu (n:=13) (fun w':World=>w'.cell? ⟨w.heap.size,1,none⟩=some (.int .i64 v.num)) 12 Wr Wr ?_;change zT _ _ _ _ _ _ _ _ _ z.drew;have d:(fun w':World=>w'.cell? ⟨w.heap.size,1,none⟩=some (.int .i64 v.num)) z.drew:=c1;have t:z.drew.heap[w.heap.size+1]? = some (.cells (xD v.kind 0 ⟨#[]⟩ (.slice none 0 0) (.slice none 0 0)) 25 (0,0)):=L.o;have C:Hid (zb [w.heap.size+1] z z.drew):=qI Wd.drew;have G:Hid (zb [] w z.drew):=qI W.o.drew;clear c0 c1 c2 c3 c4;revert d t C G;generalize z.drew=W2;intro d t C G;refine zF ?_;intro O R u I;have f:jA R:=by subst I;exact fun _ _ _ _ _ h=>h
    refine qT 0 ?_ u rfl rfl Wr f (fun w j=>?_) d ?_;rotate_left;·exact zg
    try simp only [XI]
    refine qT 1 ?_ u rfl rfl Wr f (fun w j=>?_) d ?_;rotate_left;·exact zg
    try simp only [XI]
    refine qT 2 ?_ u rfl rfl Wr f (fun w j=>?_) d ?_;rotate_left;·exact zg
    try simp only [XI]
    refine qT 3 ?_ u rfl rfl Wr f (fun w j=>?_) d ?_;rotate_left;·exact zg
    try simp only [XI]
    refine qT 4 ?_ u rfl rfl Wr f (fun w j=>?_) d ?_;rotate_left;·exact zg
    try simp only [XI]
    refine qT 5 ?_ u rfl rfl Wr f (fun w j=>?_) d ?_;rotate_left;·exact zg
    try simp only [XI]
    refine qT 6 ?_ u rfl rfl Wr f (fun w j=>?_) d ?_;rotate_left;·exact zg
    try simp only [XI]
    refine qT 7 ?_ u rfl rfl Wr f (fun w j=>?_) d ?_;rotate_left;·exact zg
    try simp only [XI]
    refine qT 8 ?_ u rfl rfl Wr f (fun w j=>?_) d ?_;rotate_left;·exact zg
    try simp only [XI]
    refine qT 9 ?_ u rfl rfl Wr f (fun w j=>?_) d ?_;rotate_left;·exact zg
    try simp only [XI]
    refine qT 10 ?_ u rfl rfl Wr f (fun w j=>?_) d ?_;rotate_left;·exact zg
    try simp only [XI]
    have E:=za (o:=1) t rfl;have D:=zh (o:=1) t;refine qO 11 u rfl Wr (fun K A=>?_);go_simp;have KS:=(zb.refl [w.heap.size+1] W2).setCell (p:=⟨w.heap.size+1,1,none⟩) (.inl Wz) (.int .i64 v.num);have x:(fun w':World=>w'.cell? ⟨w.heap.size,1,none⟩=some (.int .i64 v.num)) (W2.setCell ⟨w.heap.size+1,1,none⟩ (.int .i64 v.num)):=KS.cell d Wz;have y:(W2.setCell ⟨w.heap.size+1,1,none⟩ (.int .i64 v.num)).heap[w.heap.size+1]? = some (.cells #[.int .i64 v.kind,.int .i64 v.num,.string ⟨#[]⟩,.slice none 0 0,.slice none 0 0] 25 (0,0)):=ze t rfl;have B:=qI y;have M:=qI (C.o.trans' KS);refine A _ _ (.inr x) ?_;clear A K;try simp only [XI]
    clear d E D t y KS;have d:=x;clear x;refine qO 12 u rfl Wr (fun K A=>?_);go_simp;refine A _ _ (.inl rfl) ?_;clear A K;try simp only [XI]
    refine zE u Wr ?_ _;subst I;try clear f u O
    go_wp2;go_meet;exact⟨true,v.num,⟨#[]⟩,0,0,_,_,_,_,rfl,M.o,⟨za B.o rfl,za B.o rfl,za B.o rfl,za B.o rfl,za B.o rfl⟩,F⟩
   ·have g2:=(zq U).1;have F:Hid (xG v false v.num ⟨#[]⟩ 0 0):=qI (by have:=F.o;rw [XO (by rintro (q | q);exact Q q;exact U q)] at this;exact this);clear N P Q U;go_wp2_with fail;refine zu (n:=13) (fun w':World=>w'.cell? ⟨w.heap.size,1,none⟩=some (.int .i64 v.num)) 12 Wr Wr ?_;change zT _ _ _ _ _ _ _ _ _ z.drew;have d:(fun w':World=>w'.cell? ⟨w.heap.size,1,none⟩=some (.int .i64 v.num)) z.drew:=c1;have t:z.drew.heap[w.heap.size+1]? = some (.cells (xD v.kind 0 ⟨#[]⟩ (.slice none 0 0) (.slice none 0 0)) 25 (0,0)):=L.o;have C:Hid (zb [w.heap.size+1] z z.drew):=qI Wd.drew;have G:Hid (zb [] w z.drew):=qI W.o.drew;clear c0 c1 c2 c3 c4;revert d t C G;generalize z.drew=W2;intro d t C G;refine zF ?_;intro O R u I;have f:jA R:=by subst I;exact fun _ _ _ _ _ h=>h
    refine qT 0 ?_ u rfl rfl Wr f (fun w j=>?_) d ?_;rotate_left;·exact zg
    try simp only [XI]
    refine qT 1 ?_ u rfl rfl Wr f (fun w j=>?_) d ?_;rotate_left;·exact zg
    try simp only [XI]
    refine qT 2 ?_ u rfl rfl Wr f (fun w j=>?_) d ?_;rotate_left;·exact zg
    try simp only [XI]
    refine qT 3 ?_ u rfl rfl Wr f (fun w j=>?_) d ?_;rotate_left;·exact zg
    try simp only [XI]
    refine qT 4 ?_ u rfl rfl Wr f (fun w j=>?_) d ?_;rotate_left;·exact zg
    try simp only [XI]
    refine qT 5 ?_ u rfl rfl Wr f (fun w j=>?_) d ?_;rotate_left;·exact zg
    try simp only [XI]
    refine qT 6 ?_ u rfl rfl Wr f (fun w j=>?_) d ?_;rotate_left;·exact zg
    try simp only [XI]
    refine qT 7 ?_ u rfl rfl Wr f (fun w j=>?_) d ?_;rotate_left;·exact zg
    try simp only [XI]
    refine qT 8 ?_ u rfl rfl Wr f (fun w j=>?_) d ?_;rotate_left;·exact zg
    try simp only [XI]
    refine qT 9 ?_ u rfl rfl Wr f (fun w j=>?_) d ?_;rotate_left;·exact zg
    try simp only [XI]
    refine qT 10 ?_ u rfl rfl Wr f (fun w j=>?_) d ?_;rotate_left;·exact zg
    try simp only [XI]
    have E:=za (o:=1) t rfl;have D:=zh (o:=1) t;refine qO 11 u rfl Wr (fun K A=>?_);go_simp;have KS:=(zb.refl [w.heap.size+1] W2).setCell (p:=⟨w.heap.size+1,1,none⟩) (.inl Wz) (.int .i64 v.num);have x:(fun w':World=>w'.cell? ⟨w.heap.size,1,none⟩=some (.int .i64 v.num)) (W2.setCell ⟨w.heap.size+1,1,none⟩ (.int .i64 v.num)):=KS.cell d Wz;have y:(W2.setCell ⟨w.heap.size+1,1,none⟩ (.int .i64 v.num)).heap[w.heap.size+1]? = some (.cells #[.int .i64 v.kind,.int .i64 v.num,.string ⟨#[]⟩,.slice none 0 0,.slice none 0 0] 25 (0,0)):=ze t rfl;have B:=qI y;have M:=qI (C.o.trans' KS);refine A _ _ (.inr x) ?_;clear A K;try simp only [XI]
    clear d E D t y KS;have d:=x;clear x;refine qO 12 u rfl Wr (fun K A=>?_);go_simp;refine A _ _ (.inl rfl) ?_;clear A K;try simp only [XI]
    refine zE u Wr ?_ _;subst I;try clear f u O
    go_wp2;go_meet;exact⟨false,v.num,⟨#[]⟩,0,0,_,_,_,_,rfl,M.o,⟨za B.o rfl,za B.o rfl,za B.o rfl,za B.o rfl,za B.o rfl⟩,F⟩
  have f2:=(zq P).1;by_cases X:v.kind=3
  ·have f3:=(yq X).1;have F:=qI (plain_3 X);by_cases Q:-9007199254740991≤v.num
   ·by_cases U:v.num≤9007199254740991
    ·have F:Hid (xG v true v.num ⟨#[]⟩ 0 0):=qI (by have:=F.o;rw [XT ⟨Q,U⟩] at this;exact this);clear N P X;go_wp2_with fail;refine zu (n:=13) (fun w':World=>w'.cell? ⟨w.heap.size,1,none⟩=some (.int .i64 v.num)) 12 Wr Wr ?_;change zT _ _ _ _ _ _ _ _ _ z.drew;have d:(fun w':World=>w'.cell? ⟨w.heap.size,1,none⟩=some (.int .i64 v.num)) z.drew:=c1;have t:z.drew.heap[w.heap.size+1]? = some (.cells (xD v.kind 0 ⟨#[]⟩ (.slice none 0 0) (.slice none 0 0)) 25 (0,0)):=L.o;have C:Hid (zb [w.heap.size+1] z z.drew):=qI Wd.drew;have G:Hid (zb [] w z.drew):=qI W.o.drew;clear c0 c1 c2 c3 c4;revert d t C G;generalize z.drew=W2;intro d t C G;refine zF ?_;intro O R u I;have f:jA R:=by subst I;exact fun _ _ _ _ _ h=>h
     refine qT 0 ?_ u rfl rfl Wr f (fun w j=>?_) d ?_;rotate_left;·exact zg
     try simp only [XI]
     refine qT 1 ?_ u rfl rfl Wr f (fun w j=>?_) d ?_;rotate_left;·exact zg
     try simp only [XI]
     refine qT 2 ?_ u rfl rfl Wr f (fun w j=>?_) d ?_;rotate_left;·exact zg
     try simp only [XI]
     refine qT 3 ?_ u rfl rfl Wr f (fun w j=>?_) d ?_;rotate_left;·exact zg
     try simp only [XI]
     refine qT 4 ?_ u rfl rfl Wr f (fun w j=>?_) d ?_;rotate_left;·exact zg
     try simp only [XI]
     refine qT 5 ?_ u rfl rfl Wr f (fun w j=>?_) d ?_;rotate_left;·exact zg
     try simp only [XI]
     refine qT 6 ?_ u rfl rfl Wr f (fun w j=>?_) d ?_;rotate_left;·exact zg
     try simp only [XI]
     refine qT 7 ?_ u rfl rfl Wr f (fun w j=>?_) d ?_;rotate_left;·exact zg
     try simp only [XI]
     refine qT 8 ?_ u rfl rfl Wr f (fun w j=>?_) d ?_;rotate_left;·exact zg
     try simp only [XI]
     refine qT 9 ?_ u rfl rfl Wr f (fun w j=>?_) d ?_;rotate_left;·exact zg
     try simp only [XI]
     refine qT 10 ?_ u rfl rfl Wr f (fun w j=>?_) d ?_;rotate_left;·exact zg
     try simp only [XI]
     have E:=za (o:=1) t rfl;have D:=zh (o:=1) t;refine qO 11 u rfl Wr (fun K A=>?_);go_simp;have KS:=(zb.refl [w.heap.size+1] W2).setCell (p:=⟨w.heap.size+1,1,none⟩) (.inl Wz) (.int .i64 v.num);have x:(fun w':World=>w'.cell? ⟨w.heap.size,1,none⟩=some (.int .i64 v.num)) (W2.setCell ⟨w.heap.size+1,1,none⟩ (.int .i64 v.num)):=KS.cell d Wz;have y:(W2.setCell ⟨w.heap.size+1,1,none⟩ (.int .i64 v.num)).heap[w.heap.size+1]? = some (.cells #[.int .i64 v.kind,.int .i64 v.num,.string ⟨#[]⟩,.slice none 0 0,.slice none 0 0] 25 (0,0)):=ze t rfl;have B:=qI y;have M:=qI (C.o.trans' KS);refine A _ _ (.inr x) ?_;clear A K;try simp only [XI]
     clear d E D t y KS;have d:=x;clear x;refine qO 12 u rfl Wr (fun K A=>?_);go_simp;refine A _ _ (.inl rfl) ?_;clear A K;try simp only [XI]
     refine zE u Wr ?_ _;subst I;try clear f u O
     go_wp2;go_meet;exact⟨true,v.num,⟨#[]⟩,0,0,_,_,_,_,rfl,M.o,⟨za B.o rfl,za B.o rfl,za B.o rfl,za B.o rfl,za B.o rfl⟩,F⟩
    ·have F:Hid (xG v false v.num ⟨#[]⟩ 0 0):=qI (by have:=F.o;rw [XO (fun q=>U q.2)] at this;exact this);have g2:=XO U;clear N P X U;go_wp2_with fail;refine zu (n:=13) (fun w':World=>w'.cell? ⟨w.heap.size,1,none⟩=some (.int .i64 v.num)) 12 Wr Wr ?_;change zT _ _ _ _ _ _ _ _ _ z.drew;have d:(fun w':World=>w'.cell? ⟨w.heap.size,1,none⟩=some (.int .i64 v.num)) z.drew:=c1;have t:z.drew.heap[w.heap.size+1]? = some (.cells (xD v.kind 0 ⟨#[]⟩ (.slice none 0 0) (.slice none 0 0)) 25 (0,0)):=L.o;have C:Hid (zb [w.heap.size+1] z z.drew):=qI Wd.drew;have G:Hid (zb [] w z.drew):=qI W.o.drew;clear c0 c1 c2 c3 c4;revert d t C G;generalize z.drew=W2;intro d t C G;refine zF ?_;intro O R u I;have f:jA R:=by subst I;exact fun _ _ _ _ _ h=>h
     refine qT 0 ?_ u rfl rfl Wr f (fun w j=>?_) d ?_;rotate_left;·exact zg
     try simp only [XI]
     refine qT 1 ?_ u rfl rfl Wr f (fun w j=>?_) d ?_;rotate_left;·exact zg
     try simp only [XI]
     refine qT 2 ?_ u rfl rfl Wr f (fun w j=>?_) d ?_;rotate_left;·exact zg
     try simp only [XI]
     refine qT 3 ?_ u rfl rfl Wr f (fun w j=>?_) d ?_;rotate_left;·exact zg
     try simp only [XI]
     refine qT 4 ?_ u rfl rfl Wr f (fun w j=>?_) d ?_;rotate_left;·exact zg
     try simp only [XI]
     refine qT 5 ?_ u rfl rfl Wr f (fun w j=>?_) d ?_;rotate_left;·exact zg
     try simp only [XI]
     refine qT 6 ?_ u rfl rfl Wr f (fun w j=>?_) d ?_;rotate_left;·exact zg
     try simp only [XI]
     refine qT 7 ?_ u rfl rfl Wr f (fun w j=>?_) d ?_;rotate_left;·exact zg
     try simp only [XI]
     refine qT 8 ?_ u rfl rfl Wr f (fun w j=>?_) d ?_;rotate_left;·exact zg
     try simp only [XI]
     refine qT 9 ?_ u rfl rfl Wr f (fun w j=>?_) d ?_;rotate_left;·exact zg
     try simp only [XI]
     refine qT 10 ?_ u rfl rfl Wr f (fun w j=>?_) d ?_;rotate_left;·exact zg
     try simp only [XI]
     have E:=za (o:=1) t rfl;have D:=zh (o:=1) t;refine qO 11 u rfl Wr (fun K A=>?_);go_simp;have KS:=(zb.refl [w.heap.size+1] W2).setCell (p:=⟨w.heap.size+1,1,none⟩) (.inl Wz) (.int .i64 v.num);have x:(fun w':World=>w'.cell? ⟨w.heap.size,1,none⟩=some (.int .i64 v.num)) (W2.setCell ⟨w.heap.size+1,1,none⟩ (.int .i64 v.num)):=KS.cell d Wz;have y:(W2.setCell ⟨w.heap.size+1,1,none⟩ (.int .i64 v.num)).heap[w.heap.size+1]? = some (.cells #[.int .i64 v.kind,.int .i64 v.num,.string ⟨#[]⟩,.slice none 0 0,.slice none 0 0] 25 (0,0)):=ze t rfl;have B:=qI y;have M:=qI (C.o.trans' KS);refine A _ _ (.inr x) ?_;clear A K;try simp only [XI]
     clear d E D t y KS;have d:=x;clear x;refine qO 12 u rfl Wr (fun K A=>?_);go_simp;refine A _ _ (.inl rfl) ?_;clear A K;try simp only [XI]
     refine zE u Wr ?_ _;subst I;try clear f u O
     go_wp2;go_meet;exact⟨false,v.num,⟨#[]⟩,0,0,_,_,_,_,rfl,M.o,⟨za B.o rfl,za B.o rfl,za B.o rfl,za B.o rfl,za B.o rfl⟩,F⟩
   ·have F:Hid (xG v false v.num ⟨#[]⟩ 0 0):=qI (by have:=F.o;rw [XO (fun q=>Q q.1)] at this;exact this);have g2:=XO Q;clear N P X Q;go_wp2_with fail;refine zu (n:=13) (fun w':World=>w'.cell? ⟨w.heap.size,1,none⟩=some (.int .i64 v.num)) 12 Wr Wr ?_;change zT _ _ _ _ _ _ _ _ _ z.drew;have d:(fun w':World=>w'.cell? ⟨w.heap.size,1,none⟩=some (.int .i64 v.num)) z.drew:=c1;have t:z.drew.heap[w.heap.size+1]? = some (.cells (xD v.kind 0 ⟨#[]⟩ (.slice none 0 0) (.slice none 0 0)) 25 (0,0)):=L.o;have C:Hid (zb [w.heap.size+1] z z.drew):=qI Wd.drew;have G:Hid (zb [] w z.drew):=qI W.o.drew;clear c0 c1 c2 c3 c4;revert d t C G;generalize z.drew=W2;intro d t C G;refine zF ?_;intro O R u I;have f:jA R:=by subst I;exact fun _ _ _ _ _ h=>h
    refine qT 0 ?_ u rfl rfl Wr f (fun w j=>?_) d ?_;rotate_left;·exact zg
    try simp only [XI]
    refine qT 1 ?_ u rfl rfl Wr f (fun w j=>?_) d ?_;rotate_left;·exact zg
    try simp only [XI]
    refine qT 2 ?_ u rfl rfl Wr f (fun w j=>?_) d ?_;rotate_left;·exact zg
    try simp only [XI]
    refine qT 3 ?_ u rfl rfl Wr f (fun w j=>?_) d ?_;rotate_left;·exact zg
    try simp only [XI]
    refine qT 4 ?_ u rfl rfl Wr f (fun w j=>?_) d ?_;rotate_left;·exact zg
    try simp only [XI]
    refine qT 5 ?_ u rfl rfl Wr f (fun w j=>?_) d ?_;rotate_left;·exact zg
    try simp only [XI]
    refine qY (i:=6) (v:=undef) u rfl rfl Wr Wr Wr Wr f (Or.inr ⟨Wr,rfl⟩) d ?_;try simp only [XI]
    refine qY (i:=7) (v:=undef) u rfl rfl Wr Wr Wr Wr f (Or.inr ⟨Wr,rfl⟩) d ?_;try simp only [XI]
    refine qY (i:=8) (v:=undef) u rfl rfl Wr Wr Wr Wr f (Or.inr ⟨Wr,rfl⟩) d ?_;try simp only [XI]
    refine qT 9 ?_ u rfl rfl Wr f (fun w j=>?_) d ?_;rotate_left;·exact zg
    try simp only [XI]
    refine qT 10 ?_ u rfl rfl Wr f (fun w j=>?_) d ?_;rotate_left;·exact zg
    try simp only [XI]
    have E:=za (o:=1) t rfl;have D:=zh (o:=1) t;refine qO 11 u rfl Wr (fun K A=>?_);go_simp;have KS:=(zb.refl [w.heap.size+1] W2).setCell (p:=⟨w.heap.size+1,1,none⟩) (.inl Wz) (.int .i64 v.num);have x:(fun w':World=>w'.cell? ⟨w.heap.size,1,none⟩=some (.int .i64 v.num)) (W2.setCell ⟨w.heap.size+1,1,none⟩ (.int .i64 v.num)):=KS.cell d Wz;have y:(W2.setCell ⟨w.heap.size+1,1,none⟩ (.int .i64 v.num)).heap[w.heap.size+1]? = some (.cells #[.int .i64 v.kind,.int .i64 v.num,.string ⟨#[]⟩,.slice none 0 0,.slice none 0 0] 25 (0,0)):=ze t rfl;have B:=qI y;have M:=qI (C.o.trans' KS);refine A _ _ (.inr x) ?_;clear A K;try simp only [XI]
    clear d E D t y KS;have d:=x;clear x;refine qO 12 u rfl Wr (fun K A=>?_);go_simp;refine A _ _ (.inl rfl) ?_;clear A K;try simp only [XI]
    refine zE u Wr ?_ _;subst I;try clear f u O
    go_wp2;go_meet;exact⟨false,v.num,⟨#[]⟩,0,0,_,_,_,_,rfl,M.o,⟨za B.o rfl,za B.o rfl,za B.o rfl,za B.o rfl,za B.o rfl⟩,F⟩
  have f3:=(zq X).1;by_cases k4:v.kind=4
  ·have f4:=(yq k4).1;have F:=qI (plain_4 k4);clear N P X k4;go_wp2_with fail;refine zu (n:=8) (fun w':World=>w'.cell? ⟨w.heap.size,2,none⟩=some (.string v.s)) 7 Wr Wr ?_;change zT _ _ _ _ _ _ _ _ _ z.drew;have d:(fun w':World=>w'.cell? ⟨w.heap.size,2,none⟩=some (.string v.s)) z.drew:=c2;have t:z.drew.heap[w.heap.size+1]? = some (.cells (xD v.kind 0 ⟨#[]⟩ (.slice none 0 0) (.slice none 0 0)) 25 (0,0)):=L.o;have C:Hid (zb [w.heap.size+1] z z.drew):=qI Wd.drew;have G:Hid (zb [] w z.drew):=qI W.o.drew;clear c0 c1 c2 c3 c4;revert d t C G;generalize z.drew=W2;intro d t C G;refine zF ?_;intro O R u I;have f:jA R:=by subst I;exact fun _ _ _ _ _ h=>h
   refine qT 0 ?_ u rfl rfl Wr f (fun w j=>?_) d ?_;rotate_left;·exact zg
   try simp only [XI]
   refine qT 1 ?_ u rfl rfl Wr f (fun w j=>?_) d ?_;rotate_left;·exact zg
   try simp only [XI]
   refine qT 2 ?_ u rfl rfl Wr f (fun w j=>?_) d ?_;rotate_left;·exact zg
   try simp only [XI]
   refine qT 3 ?_ u rfl rfl Wr f (fun w j=>?_) d ?_;rotate_left;·exact zg
   try simp only [XI]
   refine qT 5 ?_ u rfl rfl Wr f (fun w j=>?_) d ?_;rotate_left;·exact zg
   try simp only [XI]
   refine qO 4 u rfl Wr (fun K A=>?_);go_simp;refine Calls.mono (zbq (HT.o.k0 G.o) v.s Ws) ?_;rintro e w3 ⟨rfl,J⟩;have x:(fun w':World=>w'.cell? ⟨w.heap.size,2,none⟩=some (.string v.s)) w3:=J.cell d Wz;have y:=J.heap t Wz;have Gj:=qI (C.o.then J);refine A _ _ (.inr x) ?_;clear A K;try simp only [XI]
   clear d t J C;have d:=x;have t:=y;have C:=Gj;clear x y Gj;revert d t C;generalize w3=W2;intro d t C;have E:=za (o:=2) t rfl;have D:=zh (o:=2) t;refine qO 6 u rfl Wr (fun K A=>?_);go_simp;have KS:=(zb.refl [w.heap.size+1] W2).setCell (p:=⟨w.heap.size+1,2,none⟩) (.inl Wz) (.string v.s);have x:(fun w':World=>w'.cell? ⟨w.heap.size,2,none⟩=some (.string v.s)) (W2.setCell ⟨w.heap.size+1,2,none⟩ (.string v.s)):=KS.cell d Wz;have y:(W2.setCell ⟨w.heap.size+1,2,none⟩ (.string v.s)).heap[w.heap.size+1]? = some (.cells #[.int .i64 v.kind,.int .i64 0,.string v.s,.slice none 0 0,.slice none 0 0] 25 (0,0)):=ze t rfl;have B:=qI y;have M:=qI (C.o.trans' KS);refine A _ _ (.inr x) ?_;clear A K;try simp only [XI]
   clear d E D t y KS;have d:=x;clear x;refine qO 7 u rfl Wr (fun K A=>?_);go_simp;refine A _ _ (.inl rfl) ?_;clear A K;try simp only [XI]
   refine zE u Wr ?_ _;subst I;try clear f u O
   go_wp2;go_meet;exact⟨zv v.s,0,v.s,0,0,_,_,_,_,rfl,M.o,⟨za B.o rfl,za B.o rfl,za B.o rfl,za B.o rfl,za B.o rfl⟩,F⟩
  have f4:=(zq k4).1;by_cases k5:v.kind=5;·have f5:=(yq k5).1;have F:=qI (plain_5 k5);have E:=za (o:=3) L.o rfl;have D:=zh (o:=3) L.o;clear N P X k4 k5;go_wp2_with fail;have y:(z.setCell ⟨w.heap.size+1,3,none⟩ (.slice a v.l.length c)).heap[w.heap.size+1]? = some (.cells #[.int .i64 v.kind,.int .i64 0,.string ⟨#[]⟩,.slice a v.l.length c,.slice none 0 0] 25 (0,0)):=ze L.o rfl;have B:=qI y;go_meet;exact⟨true,0,⟨#[]⟩,v.l.length,0,_,_,_,_,rfl,(zb.refl [w.heap.size+1] z).setCell (p:=⟨w.heap.size+1,3,none⟩) (.inl Wz) _,⟨za B.o rfl,za B.o rfl,za B.o rfl,za B.o rfl,za B.o rfl⟩,F⟩
  have f5:=(zq k5).1;by_cases k6:v.kind=6
  ·have f6:=(yq k6).1;have F:=qI (plain_6 k6);clear N P X k4 k5 k6;go_wp2_with fail;refine zu (n:=8) (fun w':World=>w'.cell? ⟨w.heap.size,4,none⟩=some (.slice b v.m.length e)) 7 Wr Wr ?_;change zT _ _ _ _ _ _ _ _ _ z.drew;have d:(fun w':World=>w'.cell? ⟨w.heap.size,4,none⟩=some (.slice b v.m.length e)) z.drew:=c4;have t:z.drew.heap[w.heap.size+1]? = some (.cells (xD v.kind 0 ⟨#[]⟩ (.slice none 0 0) (.slice none 0 0)) 25 (0,0)):=L.o;have C:Hid (zb [w.heap.size+1] z z.drew):=qI Wd.drew;have G:Hid (zb [] w z.drew):=qI W.o.drew;clear c0 c1 c2 c3 c4;revert d t C G;generalize z.drew=W2;intro d t C G;refine zF ?_;intro O R u I;have f:jA R:=by subst I;exact fun _ _ _ _ _ h=>h
   refine qT 0 ?_ u rfl rfl Wr f (fun w j=>?_) d ?_;rotate_left;·exact zg
   try simp only [XI]
   refine qT 1 ?_ u rfl rfl Wr f (fun w j=>?_) d ?_;rotate_left;·exact zg
   try simp only [XI]
   refine qT 2 ?_ u rfl rfl Wr f (fun w j=>?_) d ?_;rotate_left;·exact zg
   try simp only [XI]
   refine qT 3 ?_ u rfl rfl Wr f (fun w j=>?_) d ?_;rotate_left;·exact zg
   try simp only [XI]
   refine qT 5 ?_ u rfl rfl Wr f (fun w j=>?_) d ?_;rotate_left;·exact zg
   try simp only [XI]
   refine qO 4 u rfl Wr (fun K A=>?_);go_simp;refine Calls.mono (keys_any (Gi.o G.o) HM.o Gl.o (HT.o.k0 G.o)) ?_;rintro e w3 ⟨rfl,J⟩;have x:(fun w':World=>w'.cell? ⟨w.heap.size,4,none⟩=some (.slice b v.m.length e)) w3:=J.cell d Wz;have y:=J.heap t Wz;have Gj:=qI (C.o.then J);refine A _ _ (.inr x) ?_;clear A K;try simp only [XI]
   clear d t J C;have d:=x;have t:=y;have C:=Gj;clear x y Gj;revert d t C;generalize w3=W2;intro d t C;have E:=za (o:=4) t rfl;have D:=zh (o:=4) t;refine qO 6 u rfl Wr (fun K A=>?_);go_simp;have KS:=(zb.refl [w.heap.size+1] W2).setCell (p:=⟨w.heap.size+1,4,none⟩) (.inl Wz) (.slice b v.m.length e);have x:(fun w':World=>w'.cell? ⟨w.heap.size,4,none⟩=some (.slice b v.m.length e)) (W2.setCell ⟨w.heap.size+1,4,none⟩ (.slice b v.m.length e)):=KS.cell d Wz;have y:(W2.setCell ⟨w.heap.size+1,4,none⟩ (.slice b v.m.length e)).heap[w.heap.size+1]? = some (.cells #[.int .i64 v.kind,.int .i64 0,.string ⟨#[]⟩,.slice none 0 0,.slice b v.m.length e] 25 (0,0)):=ze t rfl;have B:=qI y;have M:=qI (C.o.trans' KS);refine A _ _ (.inr x) ?_;clear A K;try simp only [XI]
   clear d E D t y KS;have d:=x;clear x;refine qO 7 u rfl Wr (fun K A=>?_);go_simp;refine A _ _ (.inl rfl) ?_;clear A K;try simp only [XI]
   refine zE u Wr ?_ _;subst I;try clear f u O
   go_wp2;go_meet;exact⟨xe v.m,0,⟨#[]⟩,0,v.m.length,_,_,_,_,rfl,M.o,⟨za B.o rfl,za B.o rfl,za B.o rfl,za B.o rfl,za B.o rfl⟩,F⟩
  ·have f6:=(zq k6).1;have Y:Hid (zy v=false):=qI (plain_else Ws);clear N P X k4 k5 k6;go_wp2;go_ret;rw [Y.o];exact⟨rfl,W.o⟩
 case rest=>
  obtain⟨ok,m,s,l,k,al,am,cl,cm,rfl,Z,hb,HP⟩:=hcut;have Gk:Hid (zb [] w wc):=qI (W.o.trans Z (by intro i hi;simp at hi;subst hi;exact .inr (Nat.le_succ _)));have aa:=HB.o.kept Z Wz;clear c0 c1 c2 c3 c4;obtain⟨c0,c1,c2,c3,c4⟩:=aa;obtain⟨d0,d1,d2,d3,d4⟩:=hb;have t1:(v.num == m)=decide (v.num=m):=rfl;have t2:=str_beq v.s s;have t3:=nat_beq v.l.length l;have t4:=nat_beq v.m.length k;clear Z;unfold xG at HP;revert HP t1 t2 t3 t4;generalize decide (v.num=m)=q1;generalize decide (v.s=s)=q2;generalize decide (v.l.length=l)=q3;generalize decide (v.m.length=k)=q4;intro HP t1 t2 t3 t4;have Y:Hid (zy v=(ok&&q1&&q2&&q3&&q4)):=HP;clear HP;cases ok;·go_wp2;go_ret;rw [Y.o];exact⟨rfl,Gk.o⟩
  cases q1
  ·go_wp2;go_ret;rw [Y.o];exact⟨rfl,Gk.o⟩
  cases q2
  ·go_wp2;go_ret;rw [Y.o];exact⟨rfl,Gk.o⟩
  cases q3
  ·go_wp2;go_ret;rw [Y.o];exact⟨rfl,Gk.o⟩
  ·go_wp2;go_ret;rw [Y.o];exact⟨Y1 Wz,Gk.o⟩
end Go.Proofs.YtjccecajigmfkaaGreatDoor

/- Parts of one proof, merged: XPI XPJ XPL XQD. -/
import Derived.Test.YtjccecajigmfkaaGreatDoorSdU
import Derived.Test.YtjccecajigmfkaaGreatDoorSdAI
set_option linter.all false
set_option maxHeartbeats 12800000
set_option maxRecDepth 10000
namespace Go.Proofs.YtjccecajigmfkaaGreatDoor
open Go.Proofs.Tryz
open Go.RowKit
variable {k:Nat}{r:List UInt8}{z:Int}
section
variable {W w : World} {bv b2 b3 p d : Nat} {S : ByteArray} {s : List UInt8} {c : Nat} {acc : List (V d)} {vl : Value} {lcs : List (List Value)}
theorem K4 {w5 w6 k:World}{q:Option Addr}{m f C Bc:Nat}{cs:List Value}(u:LJ W bv b2 b3 p d acc w (.slice q acc.length m) lcs)(hp:LPos W bv b2 b3 p)(A:zb [p] w w5)(y:zb (Value.slice q acc.length m).ownBlock.toList w5 w6)(z:zb [bv,f] w6 k)(B:k.heap[bv]? = some (.cells (xD 5 0 ⟨#[]⟩ (.slice (some ⟨f,0,none⟩) (acc.length+1) C) (.slice none 0 0)) 25 (0,0)))(I:k.ownsRow W.heap.size 25 5 (.slice (some ⟨f,0,none⟩) (acc.length+1) C) (acc.length+1) (lcs++[cs]).flatten)(t:(Value.slice q acc.length m).ownBlock=some f∨f=w5.heap.size)(D:w.heap.size≤Bc)(a:jh d s c p S Bc cs w5):bB W bv b2 b3 p d S s c acc k:=by
 have E:=u.cap.kept.size;have H:=A.size;have F:=hp.hp;have j:∀ g,(Value.slice q acc.length m).ownBlock=some g→W.heap.size≤g∧g<w.heap.size:=fun g t=>u.row.lt g t;have G:W.heap.size≤f:=by
  rcases t with h | h;·exact (j _ h).1
  ·omega
 have n:LCap W bv b2 b3 p d k:=(u.cap.step hp ((A.mono (Y:=p::bv::f::(Value.slice q acc.length m).ownBlock.toList) Wz).trans' ((y.mono (fun i b=>by simp at b ⊢;exact .inr (.inr (.inr b)))).trans' (z.mono (fun i b=>by simp at b ⊢;rcases b with h | h;exact .inr (.inl h);exact .inr (.inr (.inl h)))))) (fun i b=>by
  rcases XY.1 b with h | b;·exact .inl h
  rcases XY.1 b with h | b;·exact .inr (.inl h)
  rcases XY.1 b with h | b;·exact .inr (.inr Ws)
  ·exact .inr (.inr (j _ (XD b)).1)))
 have l:∀ x,PS w5 p S 4097 x→PS k p S 4097 x:=fun x h=>(h.kept y (fun e=>by have:=(j _ (XD e)).1;omega)).kept z (fun e=>by
  simp at e;rcases e with e | e
  ·exact hp.pv e
  ·omega)
 refine listAns_of (fun x e=>?_) (fun v r J e=>?_);·unfold jh at a;rw [e] at a;exact⟨l _ a,n,_,_,_,B⟩
 ·unfold jh at a;rw [e] at a;exact⟨l _ a.1,_,_,u.snoc hp n B A y z rfl t I a.2 D⟩
theorem list1_any (ai:qu d)(hp:LPos W bv b2 b3 p)(hj:LJ W bv b2 b3 p d acc w vl lcs)(hs:PS w p S 4097 (.inr (s,c)))(hc:c≤4096)(hS:S.size≤262144)(hT:qD p W)(hn:acc.length≤5000) : Calls prog 223 #[.pointer (some ⟨bv,0,none⟩),.pointer (some ⟨b2,0,none⟩),.pointer (some ⟨b3,0,none⟩)] w fun e w'=>e = .returned (.tuple #[])∧bB W bv b2 b3 p d S s c acc w':=by
 obtain⟨X,U,rfl,-,-⟩:=(Slc.of_row hj.row).form;have HJ:=qI hj;have J:=qI hp;have Gg:Hid (∀ g,(Value.slice X acc.length U).ownBlock=some g→W.heap.size≤g∧g<w.heap.size):=qI (fun g hg=>hj.row.lt g hg);have Jy:Hid (W.heap.size≤w.heap.size):=qI hj.cap.kept.size;have Ji:Hid (lcs.length=acc.length):=qI hj.all.1;have Mp:Hid (∀ x,x∈lcs→x.length=5):=qI (fun x m=>by
  obtain⟨j,ah,rfl⟩:=uI m;exact (hj.all.2 j _ _ (XN ah) (XN (by rw [← hj.all.1];exact ah))).len)
 have CV:Hid (∀ w',zb [] w w'→Calls prog 74 #[.pointer (some ⟨p,0,none⟩),.int .i64 d] w' fun e w2=>k9 d (.inr (s,c)) p S w' e w2):=qI (fun w' k=>ai (hs.k0 k) hc hS ((hj.cap.tabs hp hT).step (k.mono Wz)));have f3:=za (o:=3) (v:=.slice X acc.length U) hj.blk rfl;have f2:=za (o:=0) (v:=.pointer (some ⟨p,0,none⟩)) hj.cap.ptr rfl;have f1:=za (o:=0) (v:=.int .i64 d) hj.cap.dep rfl;have HN:=qI hn;clear hj hs ai hc hn hT hp;go_enter func223,ntmps223;go_wp2_with fail;refine zaO (n:=12) (fun w':World=>w'.cell? ⟨bv,3,none⟩=some (.slice X acc.length U)∧w'.cell? ⟨b2,0,none⟩=some (.pointer (some ⟨p,0,none⟩))∧w'.cell? ⟨b3,0,none⟩=some (.int .i64 d)) 7 Wr Wr ?_;change yI _ _ _ _ _ _ _ _ _ w.drew;have a:(fun w':World=>w'.cell? ⟨bv,3,none⟩=some (.slice X acc.length U)∧w'.cell? ⟨b2,0,none⟩=some (.pointer (some ⟨p,0,none⟩))∧w'.cell? ⟨b3,0,none⟩=some (.int .i64 d)) w.drew:=⟨f3,f2,f1⟩;have Gx:Hid (zb [] w w.drew):=qI Wd.drew;clear f1 f2 f3;revert a Gx;generalize w.drew=WD;intro a Gx;refine JB ?_;intro O R B hR;have C:jA R:=by subst hR;exact fun _ _ _ _ _ h=>h
 refine qU 0 ?_ B rfl rfl Wr C (fun w ab=>?_) a ?_;rotate_left;·exact zg
 try simp only [XI]
 refine qU 1 ?_ B rfl rfl Wr C (fun w ab=>?_) a ?_;rotate_left;·obtain⟨s0,s1,s2⟩:=ab;exact zg
 try simp only [XI]
 refine qU 2 ?_ B rfl rfl Wr C (fun w ab=>?_) a ?_;rotate_left;·obtain⟨s0,s1,s2⟩:=ab;exact zg
 try simp only [XI]
 refine qU 3 ?_ B rfl rfl Wr C (fun w ab=>?_) a ?_;rotate_left;·obtain⟨s0,s1,s2⟩:=ab;exact zg
 try simp only [XI]
 refine qU 5 ?_ B rfl rfl Wr C (fun w ab=>?_) a ?_;rotate_left;·exact zg
 try simp only [XI]
 refine jx (i:=4) (j:=6) B rfl rfl Wr Wr Wr (fun K f=>?_) (fun K f=>?_)
 ·go_simp;refine Calls.mono (CV.o _ Gx.o) ?_;rintro e w3 L;obtain⟨z,rfl,ag,D,af⟩:=L.said;have P:=qI ag;have Mq:=qI D;have Jz:=qI ((Gx.o.mono (Y:=[p]) Wz).trans' D);have Jk:=qI af;have Gh:Hid (w.heap.size≤WD.heap.size):=qI Gx.o.size;have Z:(fun w':World=>w'.cell? ⟨bv,3,none⟩=some (.slice X acc.length U)∧w'.cell? ⟨b2,0,none⟩=some (.pointer (some ⟨p,0,none⟩))∧w'.cell? ⟨b3,0,none⟩=some (.int .i64 d)) w3:=⟨D.cell a.1 (by simpa using J.o.pv.symm),D.cell a.2.1 (by simpa using J.o.p2.symm),D.cell a.2.2 (by simpa using J.o.p3.symm)⟩;clear L ag D af;refine f _ _ (.inr (.inr Z)) ?_;clear f K;try simp only [XI]
  clear a;have a:=Z;clear Z;refine qV 6 B rfl Wr (fun K f=>?_);go_simp;have Ge:Hid (zb [] w3 (w3.alloc (.cells #[.int .i64 0,.int .i64 0,.string ⟨#[]⟩,.slice none 0 0,.slice none 0 0] 25))):=qI ((zb.refl [] w3).alloc _);have Gb:=qI (yE w3 [.int .i64 0,.int .i64 0,.string ⟨#[]⟩,.slice none 0 0,.slice none 0 0] 5 1 25 w3.heap.size rfl rfl Wo);have aa:(fun w':World=>w'.cell? ⟨bv,3,none⟩=some (.slice X acc.length U)∧w'.cell? ⟨b2,0,none⟩=some (.pointer (some ⟨p,0,none⟩))∧w'.cell? ⟨b3,0,none⟩=some (.int .i64 d)) (w3.alloc (.cells #[.int .i64 0,.int .i64 0,.string ⟨#[]⟩,.slice none 0 0,.slice none 0 0] 25)):=⟨Ge.o.cell a.1 Wz,Ge.o.cell a.2.1 Wz,Ge.o.cell a.2.2 Wz⟩;refine f _ _ (.inr (.inr aa)) ?_;clear f K;try simp only [XI]
  clear a;have a:=aa;clear aa;revert a Ge Gb;generalize w3.alloc (.cells #[.int .i64 0,.int .i64 0,.string ⟨#[]⟩,.slice none 0 0,.slice none 0 0] 25)=w5;intro Ge Gb a;have Gi:=qI (Jz.o.then Ge.o);have Gj:=qI (Jk.o.k0 Ge.o);clear Jk;have Ma:=qI a;have E:=zk HJ.o.row Gi.o (fun i Q m=>by simp at m;have:=(Gg.o i Q).1;have:=J.o.hp;omega);refine qV 7 B rfl Wr (fun K f=>?_);refine qM Kr E Gb.o (by intro u hu;simp only [XY,Xi,uC] at hu;rcases hu with rfl | rfl | rfl | rfl | rfl <;> rfl) (by have:=HN.o;simp only [maxLen];omega) (XC HN.o) (XH Gi.o.size Jy.o) (.tmp 4) (.tmp 9) rfl rfl rfl ?_;intro b6 M w6 l ad ae;obtain⟨b,rfl⟩:∃ b,b6=some ⟨b,0,none⟩:=by
   rcases l.2 with ⟨h,h1⟩ | ⟨g,cap,aj,hv,_⟩;·omega
   ·simp only [XU] at hv;exact⟨g,hv.1⟩
  have Gk:=qI l;have Jl:=qI ad;have Jm:Hid ((Value.slice X acc.length U).ownBlock=some b∨b=w5.heap.size):=qI (by
   rcases ae with h | h;·exact .inl (by rw [← h];rfl)
   ·exact .inr (by simpa [Value.ownBlock] using h))
  have Gy:Hid (W.heap.size≤b∧b<w6.heap.size):=qI (l.lt b rfl);have Gf:Hid (w6.heap[bv]? = some (.cells (xD 5 0 ⟨#[]⟩ (.slice X acc.length U) (.slice none 0 0)) 25 (0,0))):=qI (ad.heap (Gi.o.heap HJ.o.blk (by simpa using J.o.pv.symm)) (fun m=>by have:=(Gg.o _ (XD m)).1;have:=J.o.hv;omega));have Gt:Hid (bv≠b):=qI (XH Gy.o.1 J.o.hv);clear E l ad ae a;refine f _ _ (.inl rfl) ?_;clear f K;try simp only [XI]
  have al:(acc.length:Int)<(acc.length:Int)+1:=Ws;refine qW 8 ?_ B rfl rfl Wr C (fun w _=>?_) ?_;rotate_left;·exact zg
  try simp only [XI]
  refine qW 10 ?_ B rfl rfl Wr C (fun w _=>?_) ?_;rotate_left;·exact zg
  try simp only [XI]
  have N:∀ x,x∈lcs++[ZY]→x.length=5:=fun x m=>by
   rcases uO.1 m with m | m;·exact Mp.o x m
   ·simp at m;subst m;rfl
  have G:w6.ownsRow W.heap.size 25 5 (.slice (some ⟨b,0,none⟩) (acc.length+1) M) (acc.length+1) (lcs++[ZY]).flatten:=by have h9:=Gk.o;rw [X5];simp only [Xu,uX,Xn];exact h9
  have Jn:=qI G;have Gl:Hid ((lcs++[ZY]).set acc.length z=lcs++[z]):=qI (by
   rw [VI _ _ (XC Ji.o),Ji.o,VN];rfl)
  have Gm:=qI N;have Gn:Hid ((lcs++[ZY]).length=acc.length+1):=qI (by rw [XM,Ji.o];rfl);clear N G;refine jx (i:=9) (j:=11) B rfl rfl Wr Wr Wr (fun K f=>?_) (fun K f=>?_)
  ·obtain⟨t,F,H⟩:=kf (i:=acc.length) (g:=b) (c:=z) Jn.o Gm.o rfl Gn.o (uo _) P.o.len;rw [Gl.o] at t;have Gz:=qI t;have Gp:=qI H;clear t H;refine wp_store_mid 25 (.tmp 11) (.tmp 7) rfl b (acc.length*5) z.toArray rfl rfl (by rw [X2,P.o.len];exact F) (by rw [X2,P.o.len];kernel_rfl) (all_oneCell_toArray P.o.one) ?_;refine f _ _ (.inr (.inl Wr)) ?_;clear f K;try simp only [XI]
   have A:=Gp.o.heap Gf.o (by simpa using Gt.o);have Gq:=qI A;have c3:=za (o:=3) (v:=.slice X acc.length U) A rfl;have z3:=zh (o:=3) A;clear A;refine qV 11 B rfl Wr (fun K f=>?_);go_simp;refine f _ _ (.inr (.inl Wr)) ?_;clear f K;try simp only [XI]
   refine qm B Wr ?_ _;subst hR;try clear C B O
   clear c3 z3 F;have y:=ze (i:=3) (v:=.slice (some ⟨b,0,none⟩) (acc.length+1) M) Gq.o rfl;have q:=((Gp.o.mono (Y:=[bv,b]) Wz).setCell (p:=⟨bv,3,none⟩) (.inl Wz) (.slice (some ⟨b,0,none⟩) (acc.length+1) M));have r:=zk Gz.o (yc _ bv 3 (.slice (some ⟨b,0,none⟩) (acc.length+1) M)) (fun i Q m=>by simp [Value.ownBlock] at Q m;exact Gt.o (by rw [← m,← Q]));revert y q r;generalize World.setCell _ ⟨bv,3,none⟩ (.slice (some ⟨b,0,none⟩) (acc.length+1) M)=wF;intro y q r;go_wp2_with fail;go_end0;exact⟨rfl,K4 HJ.o J.o Gi.o Jl.o q y r Jm.o Gh.o Gj.o⟩
  ·have c3:=za (o:=3) (v:=.slice X acc.length U) Gf.o rfl;have z3:=zh (o:=3) Gf.o;go_simp;refine f _ _ (.inr (.inl Wr)) ?_;clear f K;try simp only [XI]
   clear c3 z3;have A:=ze (i:=3) (v:=.slice (some ⟨b,0,none⟩) (acc.length+1) M) Gf.o rfl;have Gq:=qI A;have Gu:=qI (yc w6 bv 3 (.slice (some ⟨b,0,none⟩) (acc.length+1) M));clear A;revert Gq Gu;generalize w6.setCell ⟨bv,3,none⟩ (.slice (some ⟨b,0,none⟩) (acc.length+1) M)=w7;intro Gq Gu;have I:=zk Jn.o Gu.o (fun i Q m=>by simp [Value.ownBlock] at Q m;exact Gt.o (by rw [← m,← Q]));obtain⟨t,F,H⟩:=kf (i:=acc.length) (g:=b) (c:=z) I Gm.o rfl Gn.o (uo _) P.o.len;rw [Gl.o] at t;have Gz:=qI t;have Gp:=qI H;clear t H I;refine qV 9 B rfl Wr (fun K f=>?_);refine wp_store_mid 25 (.tmp 11) (.tmp 7) rfl b (acc.length*5) z.toArray rfl rfl (by rw [X2,P.o.len];exact F) (by rw [X2,P.o.len];kernel_rfl) (all_oneCell_toArray P.o.one) ?_;refine f _ _ (.inr (.inl Wr)) ?_;clear f K;try simp only [XI]
   refine qm B Wr ?_ _;subst hR;try clear C B O
   clear F;have y:=Gp.o.heap Gq.o (by simpa using Gt.o);have q:=((Gu.o.mono (Y:=[bv,b]) Wz).trans' (Gp.o.mono (Y:=[bv,b]) Wz));have r:=Gz.o;revert y q r;generalize World.setCells _ b (acc.length*5) z.toArray.toList=wF;intro y q r;go_wp2_with fail;go_end0;exact⟨rfl,K4 HJ.o J.o Gi.o Jl.o q y r Jm.o Gh.o Gj.o⟩
 ·go_simp;have Ge:Hid (zb [] WD (WD.alloc (.cells #[.int .i64 0,.int .i64 0,.string ⟨#[]⟩,.slice none 0 0,.slice none 0 0] 25))):=qI ((zb.refl [] WD).alloc _);have Gb:=qI (yE WD [.int .i64 0,.int .i64 0,.string ⟨#[]⟩,.slice none 0 0,.slice none 0 0] 5 1 25 WD.heap.size rfl rfl Wo);have aa:(fun w':World=>w'.cell? ⟨bv,3,none⟩=some (.slice X acc.length U)∧w'.cell? ⟨b2,0,none⟩=some (.pointer (some ⟨p,0,none⟩))∧w'.cell? ⟨b3,0,none⟩=some (.int .i64 d)) (WD.alloc (.cells #[.int .i64 0,.int .i64 0,.string ⟨#[]⟩,.slice none 0 0,.slice none 0 0] 25)):=⟨Ge.o.cell a.1 Wz,Ge.o.cell a.2.1 Wz,Ge.o.cell a.2.2 Wz⟩;refine f _ _ (.inr (.inr aa)) ?_;clear f K;try simp only [XI]
  clear a;have a:=aa;clear aa;revert a Ge Gb;generalize WD.alloc (.cells #[.int .i64 0,.int .i64 0,.string ⟨#[]⟩,.slice none 0 0,.slice none 0 0] 25)=w4;intro Ge Gb a;have Mb:=qI (Gx.o.then Ge.o);refine qV 4 B rfl Wr (fun K f=>?_);go_simp;refine Calls.mono (CV.o _ Mb.o) ?_;rintro e w5 L;obtain⟨z,rfl,ag,D,af⟩:=L.said;have P:=qI ag;have Mq:=qI D;have Jz:=qI ((Mb.o.mono (Y:=[p]) Wz).trans' D);have Jk:=qI af;have Gh:Hid (w.heap.size≤w4.heap.size):=qI Mb.o.size;have Z:(fun w':World=>w'.cell? ⟨bv,3,none⟩=some (.slice X acc.length U)∧w'.cell? ⟨b2,0,none⟩=some (.pointer (some ⟨p,0,none⟩))∧w'.cell? ⟨b3,0,none⟩=some (.int .i64 d)) w5:=⟨D.cell a.1 (by simpa using J.o.pv.symm),D.cell a.2.1 (by simpa using J.o.p2.symm),D.cell a.2.2 (by simpa using J.o.p3.symm)⟩;clear L ag D af;refine f _ _ (.inr (.inr Z)) ?_;clear f K;try simp only [XI]
  clear a;have a:=Z;clear Z;have Gi:=qI Jz.o;have Gj:=qI Jk.o;have Jo:=qI Gb.o;clear Gb;have Gb:=qI (Jo.o.kept Mq.o (fun i Q m=>by simp [yt] at Q m;have:=Gx.o.size;have:=Jy.o;have:=J.o.hp;omega));clear Jk;have Ma:=qI a;have E:=zk HJ.o.row Gi.o (fun i Q m=>by simp at m;have:=(Gg.o i Q).1;have:=J.o.hp;omega);refine qV 7 B rfl Wr (fun K f=>?_);refine qM Kr E Gb.o (by intro u hu;simp only [XY,Xi,uC] at hu;rcases hu with rfl | rfl | rfl | rfl | rfl <;> rfl) (by have:=HN.o;simp only [maxLen];omega) (XC HN.o) (XH Gi.o.size Jy.o) (.tmp 4) (.tmp 9) rfl rfl rfl ?_;intro b6 M w6 l ad ae;obtain⟨b,rfl⟩:∃ b,b6=some ⟨b,0,none⟩:=by
   rcases l.2 with ⟨h,h1⟩ | ⟨g,cap,aj,hv,_⟩;·omega
   ·simp only [XU] at hv;exact⟨g,hv.1⟩
  have Gk:=qI l;have Jl:=qI ad;have Jm:Hid ((Value.slice X acc.length U).ownBlock=some b∨b=w5.heap.size):=qI (by
   rcases ae with h | h;·exact .inl (by rw [← h];rfl)
   ·exact .inr (by simpa [Value.ownBlock] using h))
  have Gy:Hid (W.heap.size≤b∧b<w6.heap.size):=qI (l.lt b rfl);have Gf:Hid (w6.heap[bv]? = some (.cells (xD 5 0 ⟨#[]⟩ (.slice X acc.length U) (.slice none 0 0)) 25 (0,0))):=qI (ad.heap (Gi.o.heap HJ.o.blk (by simpa using J.o.pv.symm)) (fun m=>by have:=(Gg.o _ (XD m)).1;have:=J.o.hv;omega));have Gt:Hid (bv≠b):=qI (XH Gy.o.1 J.o.hv);clear E l ad ae a;refine f _ _ (.inl rfl) ?_;clear f K;try simp only [XI]
  have al:(acc.length:Int)<(acc.length:Int)+1:=Ws;refine qW 8 ?_ B rfl rfl Wr C (fun w _=>?_) ?_;rotate_left;·exact zg
  try simp only [XI]
  refine qW 10 ?_ B rfl rfl Wr C (fun w _=>?_) ?_;rotate_left;·exact zg
  try simp only [XI]
  have N:∀ x,x∈lcs++[ZY]→x.length=5:=fun x m=>by
   rcases uO.1 m with m | m;·exact Mp.o x m
   ·simp at m;subst m;rfl
  have G:w6.ownsRow W.heap.size 25 5 (.slice (some ⟨b,0,none⟩) (acc.length+1) M) (acc.length+1) (lcs++[ZY]).flatten:=by have h9:=Gk.o;rw [X5];simp only [Xu,uX,Xn];exact h9
  have Jn:=qI G;have Gl:Hid ((lcs++[ZY]).set acc.length z=lcs++[z]):=qI (by
   rw [VI _ _ (XC Ji.o),Ji.o,VN];rfl)
  have Gm:=qI N;have Gn:Hid ((lcs++[ZY]).length=acc.length+1):=qI (by rw [XM,Ji.o];rfl);clear N G;refine jx (i:=9) (j:=11) B rfl rfl Wr Wr Wr (fun K f=>?_) (fun K f=>?_)
  ·obtain⟨t,F,H⟩:=kf (i:=acc.length) (g:=b) (c:=z) Jn.o Gm.o rfl Gn.o (uo _) P.o.len;rw [Gl.o] at t;have Gz:=qI t;have Gp:=qI H;clear t H;refine wp_store_mid 25 (.tmp 11) (.tmp 7) rfl b (acc.length*5) z.toArray rfl rfl (by rw [X2,P.o.len];exact F) (by rw [X2,P.o.len];kernel_rfl) (all_oneCell_toArray P.o.one) ?_;refine f _ _ (.inr (.inl Wr)) ?_;clear f K;try simp only [XI]
   have A:=Gp.o.heap Gf.o (by simpa using Gt.o);have Gq:=qI A;have c3:=za (o:=3) (v:=.slice X acc.length U) A rfl;have z3:=zh (o:=3) A;clear A;refine qV 11 B rfl Wr (fun K f=>?_);go_simp;refine f _ _ (.inr (.inl Wr)) ?_;clear f K;try simp only [XI]
   refine qm B Wr ?_ _;subst hR;try clear C B O
   clear c3 z3 F;have y:=ze (i:=3) (v:=.slice (some ⟨b,0,none⟩) (acc.length+1) M) Gq.o rfl;have q:=((Gp.o.mono (Y:=[bv,b]) Wz).setCell (p:=⟨bv,3,none⟩) (.inl Wz) (.slice (some ⟨b,0,none⟩) (acc.length+1) M));have r:=zk Gz.o (yc _ bv 3 (.slice (some ⟨b,0,none⟩) (acc.length+1) M)) (fun i Q m=>by simp [Value.ownBlock] at Q m;exact Gt.o (by rw [← m,← Q]));revert y q r;generalize World.setCell _ ⟨bv,3,none⟩ (.slice (some ⟨b,0,none⟩) (acc.length+1) M)=wF;intro y q r;go_wp2_with fail;go_end0;exact⟨rfl,K4 HJ.o J.o Gi.o Jl.o q y r Jm.o Gh.o Gj.o⟩
  ·have c3:=za (o:=3) (v:=.slice X acc.length U) Gf.o rfl;have z3:=zh (o:=3) Gf.o;go_simp;refine f _ _ (.inr (.inl Wr)) ?_;clear f K;try simp only [XI]
   clear c3 z3;have A:=ze (i:=3) (v:=.slice (some ⟨b,0,none⟩) (acc.length+1) M) Gf.o rfl;have Gq:=qI A;have Gu:=qI (yc w6 bv 3 (.slice (some ⟨b,0,none⟩) (acc.length+1) M));clear A;revert Gq Gu;generalize w6.setCell ⟨bv,3,none⟩ (.slice (some ⟨b,0,none⟩) (acc.length+1) M)=w7;intro Gq Gu;have I:=zk Jn.o Gu.o (fun i Q m=>by simp [Value.ownBlock] at Q m;exact Gt.o (by rw [← m,← Q]));obtain⟨t,F,H⟩:=kf (i:=acc.length) (g:=b) (c:=z) I Gm.o rfl Gn.o (uo _) P.o.len;rw [Gl.o] at t;have Gz:=qI t;have Gp:=qI H;clear t H I;refine qV 9 B rfl Wr (fun K f=>?_);refine wp_store_mid 25 (.tmp 11) (.tmp 7) rfl b (acc.length*5) z.toArray rfl rfl (by rw [X2,P.o.len];exact F) (by rw [X2,P.o.len];kernel_rfl) (all_oneCell_toArray P.o.one) ?_;refine f _ _ (.inr (.inl Wr)) ?_;clear f K;try simp only [XI]
   refine qm B Wr ?_ _;subst hR;try clear C B O
   clear F;have y:=Gp.o.heap Gq.o (by simpa using Gt.o);have q:=((Gu.o.mono (Y:=[bv,b]) Wz).trans' (Gp.o.mono (Y:=[bv,b]) Wz));have r:=Gz.o;revert y q r;generalize World.setCells _ b (acc.length*5) z.toArray.toList=wF;intro y q r;go_wp2_with fail;go_end0;exact⟨rfl,K4 HJ.o J.o Gi.o Jl.o q y r Jm.o Gh.o Gj.o⟩
end
def zaM:List Value:=[.string ⟨#[]⟩,.int .i64 0,.int .i64 0,.string ⟨#[]⟩,.slice none 0 0,.slice none 0 0]
structure MCap (W:World)(bv b2 b3 b6 bm p d:Nat)(w:World):Prop where
 ptr:w.heap[b2]? = some (.cells #[.pointer (some ⟨p,0,none⟩)] 107 (0,0))
 dep:w.heap[b3]? = some (.cells #[.int .i64 d] 3 (0,0))
 box:w.heap[b6]? = some (.cells #[.map (some bm)] 255 (0,0))
 kept:zb [p,bv,bm] W w
structure MPos (W:World)(bv b2 b3 b6 bm p:Nat):Prop where
 hp:p<W.heap.size
 hv:bv<W.heap.size
 hm:bm<W.heap.size
 h2:b2<W.heap.size
 h3:b3<W.heap.size
 h6:b6<W.heap.size
 ltv:p<bv
 ltm:p<bm
 p2:b2≠p
 p3:b3≠p
 p6:b6≠p
 v2:b2≠bv
 v3:b3≠bv
 v6:b6≠bv
 m2:b2≠bm
 m3:b3≠bm
 m6:b6≠bm
 vm:bv≠bm
structure MJ (W:World)(bv b2 b3 b6 bm p d:Nat)(seen:List ByteArray)(acc:List (ByteArray×V d))(w:World)(vm:Value)(mcs:List (ByteArray×List Value)):Prop where
 cap:MCap W bv b2 b3 b6 bm p d w
 saw:kt w bm seen
 blk:w.heap[bv]? = some (.cells (xD 6 0 ⟨#[]⟩ (.slice none 0 0) vm) 25 (0,0))
 row:w.ownsRow W.heap.size 41 6 vm acc.length (yM mcs)
 all:zL (YQ (Rep d (fun g=>W.heap.size≤g∧vm.ownBlock≠some g) w)) mcs acc
structure MBad (W:World)(bv b2 b3 b6 bm p d:Nat)(w:World):Prop where
 cap:MCap W bv b2 b3 b6 bm p d w
 blk:∃ a n c,w.heap[bv]? = some (.cells (xD 6 0 ⟨#[]⟩ (.slice none 0 0) (.slice a n c)) 25 (0,0))
section
variable {W w w' : World} {bv b2 b3 b6 bm p d : Nat}
theorem MCap.step (h:MCap W bv b2 b3 b6 bm p d w)(hp:MPos W bv b2 b3 b6 bm p){X:List Nat}(k:zb X w w')(f:∀ g,g∈X→g=p∨g=bv∨g=bm∨W.heap.size≤g):MCap W bv b2 b3 b6 bm p d w':=by
 have n:=h.kept.size;have a:∀ b,b<W.heap.size→b≠p→b≠bv→b≠bm→b ∉ X:=fun b m h2 h3 j l=>by
  rcases f _ l with e | e | e | e;·exact h2 e
  ·exact h3 e
  ·exact j e
  ·omega
 refine⟨k.heap h.ptr (a _ hp.h2 hp.p2 hp.v2 hp.m2),k.heap h.dep (a _ hp.h3 hp.p3 hp.v3 hp.m3),k.heap h.box (a _ hp.h6 hp.p6 hp.v6 hp.m6),h.kept.trans k ?_⟩;intro g i;rcases f _ i with e | e | e | e
 ·exact .inl (by simp [e])
 ·exact .inl (by simp [e])
 ·exact .inl (by simp [e])
 ·exact .inr e
theorem MCap.tabs (h:MCap W bv b2 b3 b6 bm p d w)(hp:MPos W bv b2 b3 b6 bm p)(a:qD p W):qD p w:=by
 obtain⟨f,b,h2,h3⟩:=a;have:=hp.ltv;have:=hp.ltm;exact⟨f,b,h2.trans h.kept (fun i e=>by simp at e;exact .inr Ws),h3⟩
theorem MJ.step {a:List ByteArray}{acc:List (ByteArray×V d)}{vm:Value}{mcs:List (ByteArray×List Value)}(h:MJ W bv b2 b3 b6 bm p d a acc w vm mcs)(hp:MPos W bv b2 b3 b6 bm p)(k:zb [p] w w'):MJ W bv b2 b3 b6 bm p d a acc w' vm mcs:=
 ⟨h.cap.step hp k (fun g b=>by simp at b;exact .inl b),h.saw.kept k (by have:=hp.ltm;simp;omega),k.heap h.blk (by have:=hp.ltv;simp;omega),zk h.row k (fun g b e=>by simp at e;have:=(h.row.lt g b).1;have:=hp.hp;omega),h.all.mono fun _ _ _ r=>⟨r.1,r.2.move k (fun g _ q=>⟨fun e=>by simp at e;have:=hp.hp;omega,q⟩)⟩⟩
theorem MJ.put {b a:List ByteArray}{acc:List (ByteArray×V d)}{vm:Value}{mcs:List (ByteArray×List Value)}(h:MJ W bv b2 b3 b6 bm p d b acc w vm mcs)(hp:MPos W bv b2 b3 b6 bm p)(k:zb [bm] w w')(i:kt w' bm a):MJ W bv b2 b3 b6 bm p d a acc w' vm mcs:=
 ⟨h.cap.step hp k (fun g e=>by simp at e;exact .inr (.inr (.inl e))),i,k.heap h.blk (by simpa using hp.vm),zk h.row k (fun g e f=>by simp at f;have:=(h.row.lt g e).1;have:=hp.hm;omega),h.all.mono fun _ _ _ r=>⟨r.1,r.2.move k (fun g _ q=>⟨fun f=>by simp at f;have:=hp.hm;omega,q⟩)⟩⟩
theorem MBad.step (h:MBad W bv b2 b3 b6 bm p d w)(hp:MPos W bv b2 b3 b6 bm p)(k:zb [p] w w'):MBad W bv b2 b3 b6 bm p d w':=by
 obtain⟨a,n,c,e⟩:=h.blk;exact⟨h.cap.step hp k (fun g b=>by simp at b;exact .inl b),a,n,c,k.heap e (by have:=hp.ltv;simp;omega)⟩
theorem MJ.bad {b:List ByteArray}{acc:List (ByteArray×V d)}{vm:Value}{mcs:List (ByteArray×List Value)}(h:MJ W bv b2 b3 b6 bm p d b acc w vm mcs):MBad W bv b2 b3 b6 bm p d w:=by
 obtain⟨a,c,rfl,-,-⟩:=(Slc.of_row h.row).form;exact⟨h.cap,_,_,_,h.blk⟩
theorem MJ.snoc {e:List ByteArray}{acc:List (ByteArray×V d)}{vm f:Value}{mcs:List (ByteArray×List Value)}{w5 w6 k:World}{cs:List Value}{key:ByteArray}{v:V d}{g Bc:Nat}(h:MJ W bv b2 b3 b6 bm p d e acc w vm mcs)(hp:MPos W bv b2 b3 b6 bm p)(m:MCap W bv b2 b3 b6 bm p d k)(t:kt k bm e)(u:k.heap[bv]? = some (.cells (xD 6 0 ⟨#[]⟩ (.slice none 0 0) f) 25 (0,0)))(z:zb [p] w w5)(x:zb vm.ownBlock.toList w5 w6)(A:zb [bv,g] w6 k)(j:f.ownBlock=some g)(b:vm.ownBlock=some g∨g=w5.heap.size)(s:k.ownsRow W.heap.size 41 6 f (acc.length+1) (yM (mcs++[(key,cs)])))(n:Rep d (fun i=>Bc≤i) w5 cs v)(E:w.heap.size≤Bc):MJ W bv b2 b3 b6 bm p d e (acc++[(key,v)]) k f (mcs++[(key,cs)]):=by
 have D:=hp.hp;have C:=hp.hv;have F:=h.cap.kept.size;have B:=z.size;refine⟨m,t,u,by rw [XM];exact s,zL.snoc (h.all.mono fun c y _ r=>⟨r.1,?_⟩) ⟨rfl,?_⟩⟩
 ·refine ((r.2.move (T:=fun i=>W.heap.size≤i∧vm.ownBlock≠some i∧i<w.heap.size) z (fun i l q=>⟨fun a=>by simp at a;omega,q.1,q.2,l⟩)).move (T:=fun i=>W.heap.size≤i∧vm.ownBlock≠some i∧i<w.heap.size) x (fun i l q=>⟨fun a=>q.2.1 (XD a),q⟩)).move A (fun i l q=>⟨fun a=>?_,q.1,fun a=>?_⟩)
  ·simp at a;rcases a with a | a
   ·omega
   ·rcases b with b | b;·exact q.2.1 (by rw [b,a])
    ·omega
  ·rw [j] at a;injection a with a;rcases b with b | b
   ·exact q.2.1 (by rw [b,a])
   ·omega
 ·refine (n.move (T:=fun i=>Bc≤i∧i<w5.heap.size∧vm.ownBlock≠some i) x (fun i l q=>⟨fun a=>?_,q,l,fun a=>?_⟩)).move A (fun i l q=>⟨fun a=>?_,Ws,fun a=>?_⟩);·have:=(h.row.lt i (XD a)).2;omega
  ·have:=(h.row.lt i a).2;omega
  ·simp at a;rcases a with a | a
   ·omega
   ·rcases b with b | b;·exact q.2.2 (by rw [b,a])
    ·omega
  ·rw [j] at a;injection a with a;rcases b with b | b
   ·exact q.2.2 (by rw [b,a])
   ·omega
def Qs (seen:List ByteArray)(x:PX):PX:=Zk [58] (xg (if seen.any (fun k=>decide (k=zw (bo (xg x))))=true then bh 53 (Zb (xg x)) else Zb (xg x)))
def YK (x:PX):ByteArray:=zw (bo (xg x))
theorem head_eat (r:List UInt8)(c:Nat):Zk [58] (.inr (r,c))=if r.head? = some 58 then .inr (r.tail,c) else .inl 50:=by
 unfold Zk;rw [vj];by_cases h:r.head? = some 58;·rw [XT h,XK rfl,XK h];show (Sum.inr (r.drop 1,c):PX)=_;rw [List.drop_one]
 ·rw [XO h,XJ Wo,XJ h];rfl
theorem pairStep_eq {d:Nat}(s:List UInt8)(c:Nat)(acc:List (ByteArray×V d)):zO (zl d) s c acc=match Qs (acc.map (fun q=>q.1)) (.inr (s,c)) with
  | .inl e=>.inl e
  | .inr (s',c')=>match zl d s' c' with
   | .inl e=>.inl e
   | .inr (v,r,c'')=>.inr (acc++[(YK (.inr (s,c)),v)],r,c''):=by
 have i:∀ k:List UInt8,(acc.map (fun q=>q.1)).any (fun x=>decide (x=zw k))=acc.any (fun q=>decide (q.1=zw k)):=fun k=>by rw [List.any_map];rfl
 unfold zO Qs YK;have j:xg (.inr (s,c)) = .inr (zo s,c):=rfl;rw [j];cases f:xJ (zo s) with
 | inl e=>
  rw [(bC f).1,(bC f).2];simp only;have h:∀ b:Bool,(if b=true then bh 53 (Sum.inl e:PX) else Sum.inl e)=Sum.inl e:=fun b=>by cases b <;> rfl
  rw [h];rfl
 | inr y=>
  obtain⟨k,r⟩:=y;rw [(vg f).1,(vg f).2,i];simp only;by_cases a:acc.any (fun q=>decide (q.1=zw k))=true;·rw [XK a,XK a];rfl
  ·rw [XJ a,XJ a];have h2:xg (.inr (r,c)) = .inr (zo r,c):=rfl;rw [h2,head_eat];by_cases h3:(zo r).head? = some 58
   ·rw [XK h3,XK h3];simp only;cases zl d (zo r).tail c with
    | inl e=>rfl
    | inr z=>obtain⟨v,q,c2⟩:=z;rfl
   ·rw [XJ h3,XJ h3]
theorem pairX_cnt (a:List ByteArray)(s:List UInt8)(c:Nat)(hc:c≤4096):zaK (Qs a (.inr (s,c))):=by
 unfold Qs;have b:∀ x,zaK x→zaK (xg x):=fun x h=>by cases x with | inl e=>exact h | inr q=>exact h
 have h2:∀ x,zaK x→zaK (Zk [58] x):=fun x h=>by
  cases x with
  | inl e=>exact trivial
  | inr q=>obtain⟨r,c⟩:=q;rw [head_eat];split;exact h;exact trivial
 have h3:∀ x,zaK x→zaK (Zb x):=fun x h=>by
  cases x with
  | inl e=>exact h
  | inr q=>
   obtain⟨r,c⟩:=q;unfold Zb;simp only;split;·exact trivial
   ·exact h
 refine h2 _ (b _ ?_);have d:=h3 _ (b (.inr (s,c)) hc);split
 ·revert d;cases Zb (xg (.inr (s,c))) with
  | inl e=>exact fun _=>trivial
  | inr q=>exact fun _=>trivial
 ·exact d
def ZR (W:World)(bv b2 b3 b6 bm p d:Nat)(S:ByteArray)(s:List UInt8)(c:Nat)(acc:List (ByteArray×V d))(w':World):Prop:=
 match zO (zl d) s c acc with
 | .inl x=>PS w' p S 4097 (.inl x)∧MBad W bv b2 b3 b6 bm p d w'
 | .inr (acc',r,c')=>PS w' p S 4097 (.inr (r,c'))∧∃ vm mcs,MJ W bv b2 b3 b6 bm p d (acc'.map (fun q=>q.1)) acc' w' vm mcs
def bD (d:Nat)(X:PX)(p:Nat)(S:ByteArray)(Bc:Nat)(cs:List Value)(w':World):Prop:=
 match X with
 | .inl x=>PS w' p S 4097 (.inl x)
 | .inr (s,c)=>jh d s c p S Bc cs w'
theorem bD.k0 {X:PX}{Bc:Nat}{S:ByteArray}{cs:List Value}(h:bD d X p S Bc cs w)(k:zb [] w w'):bD d X p S Bc cs w':=by
 cases X with
 | inl x=>exact PS.k0 h k
 | inr y=>obtain⟨s,c⟩:=y;exact jh.k0 h k
theorem k9.saidX {X:PX}{S:ByteArray}{e:Ending}(h:k9 d X p S w e w'):∃ cs:List Value,e = .returned (.agg cs.toArray)∧jY cs∧zb [p] w w'∧bD d X p S w.heap.size cs w':=by
 cases X with
 | inl x=>obtain⟨cs,a,h2,h3,b⟩:=h;exact⟨cs,a,h2,h3,b⟩
 | inr y=>obtain⟨s,c⟩:=y;exact k9.said h
theorem pairAns_of {S:ByteArray}{s:List UInt8}{c:Nat}{acc:List (ByteArray×V d)}{X:PX}{e:World}{Bc:Nat}{cs:List Value}(l:Qs (acc.map (fun q=>q.1)) (.inr (s,c))=X)(a:bD d X p S Bc cs e)(b:∀ x,PS e p S 4097 x→PS w' p S 4097 x)(f:MBad W bv b2 b3 b6 bm p d w')(h2:∀ v,Rep d (fun i=>Bc≤i) e cs v→∃ vm mcs,MJ W bv b2 b3 b6 bm p d ((acc++[(YK (.inr (s,c)),v)]).map (fun q=>q.1)) (acc++[(YK (.inr (s,c)),v)]) w' vm mcs):ZR W bv b2 b3 b6 bm p d S s c acc w':=by
 unfold ZR;rw [pairStep_eq,l];cases X with
 | inl x=>exact⟨b _ a,f⟩
 | inr y=>
  obtain⟨m,k⟩:=y;unfold bD jh at a;simp only at a ⊢;cases h:zl d m k with
  | inl x=>rw [h] at a;exact⟨b _ a,f⟩
  | inr z=>obtain⟨v,r,j⟩:=z;rw [h] at a;exact⟨b _ a.1,h2 v a.2⟩
end
def pMeas (S:ByteArray)(p:Nat)(w:World):Nat:=
 match w.heap[p]? with
 | some (.cells c _ _)=>(match (c[1]? : Option Value),(c[3]? : Option Value) with | some (Value.int _ i),some (Value.int _ e)=>if e=0 then S.size-i.toNat+1 else 0 | _,_=>0)
 | _=>0
theorem za5 {w:World}{p B c:Nat}{S:ByteArray}(h:PS w p S B (.inr (r,c))):pMeas S p w=r.length+1:=by
 obtain⟨i,a,d,hc,b⟩:=h.open_ok;have:=xf b d;unfold PAt at a;unfold pMeas;rw [a];simp;omega
theorem KQ {w:World}{p B:Nat}{S:ByteArray}{e:Int}(h:PS w p S B (.inl e)):pMeas S p w=0:=by
 obtain⟨i,c,a,b,hc,h2,h3⟩:=h.open_bad;unfold PAt at a;unfold pMeas;rw [a];have:e≠0:=Ws;simp [this]
section
variable {σ : Type} {step : List UInt8 → Nat → σ → Sum Int (σ × List UInt8 × Nat)} {stop : UInt8} {a1 a2 a3 a4 : Value} {GJ : σ → World → Prop} {GB : World → Prop} {len : σ → Nat} {p : Nat} {S : ByteArray} {w : World}
def GAns (step:List UInt8→Nat→σ→Sum Int (σ×List UInt8×Nat))(p:Nat)(S:ByteArray)(GJ:σ→World→Prop)(GB:World→Prop)(s:List UInt8)(c:Nat)(acc:σ)(w':World):Prop:=
 match step s c acc with
 | .inl x=>PS w' p S 4097 (.inl x)∧GB w'
 | .inr (acc',r,c')=>PS w' p S 4097 (.inr (r,c'))∧GJ acc' w'
def GFin (R:Sum Int (σ×List UInt8×Nat))(p:Nat)(S:ByteArray)(GJ:σ→World→Prop)(GB:World→Prop)(w':World):Prop:=
 match R with
 | .inl x=>PS w' p S 4097 (.inl x)∧GB w'
 | .inr (acc',r,c')=>PS w' p S 4097 (.inr (r,c'))∧GJ acc' w'∧c'≤4096
def GRel (step:List UInt8→Nat→σ→Sum Int (σ×List UInt8×Nat))(stop:UInt8)(R:Sum Int (σ×List UInt8×Nat))(len:σ→Nat)(p:Nat)(S:ByteArray)(GJ:σ→World→Prop)(GB:World→Prop)(w':World):Prop:=
 (∃ x,PS w' p S 4097 (.inl x)∧R = .inl x∧GB w')∨∃ s c acc,PS w' p S 4097 (.inr (s,c))∧c≤4096∧len acc≤c∧QX step stop R s c acc∧GJ acc w'
theorem zx (a:UInt8)(r:List UInt8)(c:Nat):kh [a] (.inr (r,c))=decide (r.head? = some a)∧(r.head? = some a→Zy [a] (.inr (r,c)) = .inr (r.tail,c))∧(r.head? ≠ some a→Zy [a] (.inr (r,c)) = .inr (r,c)):=by
 refine⟨vj a r c,fun h=>?_,fun h=>vi (by rw [vj,XO h])⟩;rw [vt (by rw [vj,XT h])];show (Sum.inr (r.drop 1,c):PX)=_;rw [List.drop_one]
theorem Z2 (r:List UInt8)(c:Nat):(r.head? = some 44→Zk [44] (.inr (r,c)) = .inr (r.tail,c))∧(r.head? ≠ some 44→Zk [44] (.inr (r,c)) = .inl 50):=by
 refine⟨fun h=>?_,fun h=>Zr (by rw [vj,XO h])⟩;rw [QQ (by rw [vj,XT h])];show (Sum.inr (r.drop 1,c):PX)=_;rw [List.drop_one]
theorem items1_any (K:S.size≤262144)(HC:∀ s c acc w,PS w p S 4097 (.inr (s,c))→c≤4096→len acc≤c→GJ acc w→Calls prog 223 #[a1,a2,a3] w fun e w'=>e = .returned (.tuple #[])∧GAns step p S GJ GB s c acc w')(D:∀ acc w w',GJ acc w→zb [p] w w'→GJ acc w')(HB:∀ w w',GB w→zb [p] w w'→GB w')(Ja:∀ acc w,GJ acc w→GB w)(Jb:∀ s c acc acc' r c',c≤4096→step s c acc = .inr (acc',r,c')→r.length≤s.length∧c'≤4096∧(len acc≤c→len acc'≤c')){s:List UInt8}{c f:Nat}{acc:σ}(hs:PS w p S 4097 (.inr (s,c)))(hc:c≤4096)(hl:len acc≤c)(hj:GJ acc w)(hf:s.length<f) : Calls prog 222 #[.pointer (some ⟨p,0,none⟩),.string ⟨#[stop]⟩,.func (.func 223) #[] #[a1,a2,a3]] w fun e w'=>e = .returned (.tuple #[])∧GFin (ya step stop f s c acc) p S GJ GB w':=by
 have C1:=qI (kr hs K);have HW:=qI HC;have D:=qI D;have HB:=qI HB;have Ja:=qI Ja;have Jb:=qI Jb;have Jp:=qI hj;have Jj:=qI hc;have Mc:=qI hl;have HF:=qI hf;clear hs hc hl hj hf HC;have W:xg (.inr (s,c)) = .inr (zo s,c):=rfl;rw [W] at C1;clear W;by_cases N:(zo s).head? = some stop
 ·have HR:Hid (ya step stop f s c acc = .inr (acc,(zo s).tail,c)):=qI (XK N);rw [HR.o];have P:=qI N;clear N;go_enter func222,ntmps222;go_wp2_with fail;refine C1.o.mono ?_;rintro e w1 ⟨rfl,m,z⟩;have Md:=qI m;have Jc:=qI (D.o _ _ _ Jp.o z);have L:=qI (xY m K ⟨#[stop]⟩);rw [show (⟨#[stop]⟩:ByteArray).data.toList=[stop] from rfl,(zx stop (zo s) c).1] at L;clear z m;rw [XT P.o,(zx stop (zo s) c).2.1 P.o] at L;go_wp2_with fail;refine L.o.mono ?_;rintro e w2 ⟨rfl,C,E⟩;go_wp2_with fail
  ((try simp only [Exit.inBlock,Exit.then]);refine bodyPost_ret (results_none rfl _ _ _) rfl ?_)
  exact⟨rfl,C,D.o _ _ _ Jc.o E,Jj.o⟩
 ·have HR:Hid (ya step stop f s c acc=jO step stop f (zo s) c acc):=qI (XJ N);rw [HR.o];have HI:Hid (QX step stop (jO step stop f (zo s) c acc) (zo s) c acc):=qI ⟨f,Nat.lt_of_le_of_lt (qQ s) HF.o,rfl⟩;have P:=qI N;clear N HR;revert HI;generalize jO step stop f (zo s) c acc=R;intro HI;go_enter func222,ntmps222;go_wp2_with fail;refine C1.o.mono ?_;rintro e w1 ⟨rfl,m,z⟩;have Md:=qI m;have Jc:=qI (D.o _ _ _ Jp.o z);have L:=qI (xY m K ⟨#[stop]⟩);rw [show (⟨#[stop]⟩:ByteArray).data.toList=[stop] from rfl,(zx stop (zo s) c).1] at L;clear z m;rw [XO P.o,(zx stop (zo s) c).2.2 P.o] at L;go_wp2_with fail;refine L.o.mono ?_;rintro e w2 ⟨rfl,C,E⟩;have Jd:Hid (GRel step stop R len p S GJ GB w2):=qI (.inr ⟨zo s,c,acc,C,Jj.o,Mc.o,HI.o,D.o _ _ _ Jc.o E⟩);clear C E;go_wp2_with fail;go_loopw [] (fun wr=>GRel step stop R len p S GJ GB wr) (fun wr=>pMeas S p wr);case atStart=>exact Jd.o
  case round=>
   rcases hrel with ⟨x,d,hx,Q⟩ | ⟨s3,c3,Y,d,J,M,ad,X⟩;·have HX:=qI hx;have Me:=qI d;have Mf:=qI Q;obtain⟨i,cc,O,hi,I,h2,h3⟩:=d.open_bad;have d3:=za (o:=3) (v:=.int .i64 x) O rfl;obtain⟨f1,f2⟩:=zq (a:=x) (b:=0) Ws;clear hx d Q O h2 h3 hi I;go_wp2_with fail;go_end0;rw [HX.o];exact⟨rfl,Me.o,Mf.o⟩
   ·have HM:=qI (za5 d);have CO:=qI (HW.o _ _ _ _ d J M X);have Gv:=qI ad;have Mg:=qI M;have Mh:=qI J;obtain⟨i,O,hi,I,h2⟩:=d.open_ok;have d3:=za (o:=3) (v:=.int .i64 0) O rfl;clear d J M ad X O hi I h2;unfold GAns at CO;go_wp2_with fail;refine CO.o.mono ?_;rintro e w4 ⟨rfl,n⟩;clear d3;cases j:step s3 c3 Y with
    | inl x=>rw [j] at n;obtain⟨u,aa⟩:=n;have HX:=qI (Gv.o.bad j);have Mi:=qI aa;have H:=qI (xY u K ⟨#[stop]⟩);rw [show kh (⟨#[stop]⟩:ByteArray).data.toList (.inl x)=false from rfl,vi rfl] at H;clear u aa j;go_wp2_with fail;refine H.o.mono ?_;rintro e w5 ⟨rfl,h,k⟩;have Mj:=qI (HB.o _ _ Mi.o k);have U:=qI (ZG h K ⟨#[44]⟩);rw [Zr rfl] at U;clear h k;go_wp2_with fail;refine U.o.mono ?_;rintro e w6 ⟨rfl,q,A⟩;have Z:Hid (PS w6 p S 4097 (.inl x)):=qI q;have Gf:=qI (HB.o _ _ Mj.o A);clear q A;go_wp2;case roundEnd=>exact⟨.inl ⟨x,Z.o,HX.o,Gf.o⟩,by rw [KQ Z.o,HM.o];omega⟩
    | inr y=>
     obtain⟨G,B,c4⟩:=y;rw [j] at n;obtain⟨u,ab⟩:=n;obtain⟨q1,q2,q3⟩:=Jb.o _ _ _ _ _ _ Mh.o j;have HQ:Hid (B.length≤s3.length∧c4≤4096∧len G≤c4):=qI ⟨q1,q2,q3 Mg.o⟩;have Gd:=qI j;have Jq:=qI ab;have H:=qI (xY u K ⟨#[stop]⟩);rw [show (⟨#[stop]⟩:ByteArray).data.toList=[stop] from rfl,(zx stop B c4).1] at H;clear u ab j q1 q2 q3;by_cases F:B.head? = some stop
     ·rw [XT F,(zx stop B c4).2.1 F] at H;have HX:=qI (Gv.o.done Gd.o F);clear F;go_wp2_with fail;refine H.o.mono ?_;rintro e w5 ⟨rfl,h,k⟩;go_wp2_with fail
      ((try simp only [Exit.inBlock,Exit.then]);refine bodyPost_ret (results_none rfl _ _ _) rfl ?_)
      rw [HX.o];exact⟨rfl,h,D.o _ _ _ Jq.o k,HQ.o.2.1⟩
     ·rw [XO F,(zx stop B c4).2.2 F] at H;have Jr:=qI F;clear F;go_wp2_with fail;refine H.o.mono ?_;rintro e w5 ⟨rfl,h,k⟩;have Mk:=qI (D.o _ _ _ Jq.o k);have U:=qI (ZG h K ⟨#[44]⟩);rw [show (⟨#[44]⟩:ByteArray).data.toList=[44] from rfl] at U;clear h k;go_wp2_with fail;refine U.o.mono ?_;rintro e w6 ⟨rfl,q,A⟩;have Js:=qI (D.o _ _ _ Mk.o A);have Z:=qI q;clear q A;go_wp2;case roundEnd=>
       by_cases h7:B.head? = some 44
       ·have l:=Z.o;rw [(Z2 B c4).1 h7] at l;refine⟨.inr ⟨B.tail,c4,G,l,HQ.o.2.1,HQ.o.2.2,Gv.o.next Gd.o Jr.o h7 HQ.o.1,Js.o⟩,?_⟩;rw [za5 l,HM.o];have:=HQ.o.1;cases B with
        | nil=>cases h7
        | cons a t=>simp only [uE,XP] at *;omega
       ·have l:=Z.o;rw [(Z2 B c4).2 h7] at l;exact⟨.inl ⟨50,l,Gv.o.other Gd.o Jr.o h7,Ja.o _ _ Js.o⟩,by rw [KQ l,HM.o];omega⟩
theorem items2_any (K:S.size≤262144)(HC:∀ s c acc w,PS w p S 4097 (.inr (s,c))→c≤4096→len acc≤c→GJ acc w→Calls prog 224 #[a1,a2,a3,a4] w fun e w'=>e = .returned (.tuple #[])∧GAns step p S GJ GB s c acc w')(D:∀ acc w w',GJ acc w→zb [p] w w'→GJ acc w')(HB:∀ w w',GB w→zb [p] w w'→GB w')(Ja:∀ acc w,GJ acc w→GB w)(Jb:∀ s c acc acc' r c',c≤4096→step s c acc = .inr (acc',r,c')→r.length≤s.length∧c'≤4096∧(len acc≤c→len acc'≤c')){s:List UInt8}{c f:Nat}{acc:σ}(hs:PS w p S 4097 (.inr (s,c)))(hc:c≤4096)(hl:len acc≤c)(hj:GJ acc w)(hf:s.length<f) : Calls prog 222 #[.pointer (some ⟨p,0,none⟩),.string ⟨#[stop]⟩,.func (.func 224) #[] #[a1,a2,a3,a4]] w fun e w'=>e = .returned (.tuple #[])∧GFin (ya step stop f s c acc) p S GJ GB w':=by
 have C1:=qI (kr hs K);have HW:=qI HC;have D:=qI D;have HB:=qI HB;have Ja:=qI Ja;have Jb:=qI Jb;have Jp:=qI hj;have Jj:=qI hc;have Mc:=qI hl;have HF:=qI hf;clear hs hc hl hj hf HC;have W:xg (.inr (s,c)) = .inr (zo s,c):=rfl;rw [W] at C1;clear W;by_cases N:(zo s).head? = some stop
 ·have HR:Hid (ya step stop f s c acc = .inr (acc,(zo s).tail,c)):=qI (XK N);rw [HR.o];have P:=qI N;clear N;go_enter func222,ntmps222;go_wp2_with fail;refine C1.o.mono ?_;rintro e w1 ⟨rfl,m,z⟩;have Md:=qI m;have Jc:=qI (D.o _ _ _ Jp.o z);have L:=qI (xY m K ⟨#[stop]⟩);rw [show (⟨#[stop]⟩:ByteArray).data.toList=[stop] from rfl,(zx stop (zo s) c).1] at L;clear z m;rw [XT P.o,(zx stop (zo s) c).2.1 P.o] at L;go_wp2_with fail;refine L.o.mono ?_;rintro e w2 ⟨rfl,C,E⟩;go_wp2_with fail
  ((try simp only [Exit.inBlock,Exit.then]);refine bodyPost_ret (results_none rfl _ _ _) rfl ?_)
  exact⟨rfl,C,D.o _ _ _ Jc.o E,Jj.o⟩
 ·have HR:Hid (ya step stop f s c acc=jO step stop f (zo s) c acc):=qI (XJ N);rw [HR.o];have HI:Hid (QX step stop (jO step stop f (zo s) c acc) (zo s) c acc):=qI ⟨f,Nat.lt_of_le_of_lt (qQ s) HF.o,rfl⟩;have P:=qI N;clear N HR;revert HI;generalize jO step stop f (zo s) c acc=R;intro HI;go_enter func222,ntmps222;go_wp2_with fail;refine C1.o.mono ?_;rintro e w1 ⟨rfl,m,z⟩;have Md:=qI m;have Jc:=qI (D.o _ _ _ Jp.o z);have L:=qI (xY m K ⟨#[stop]⟩);rw [show (⟨#[stop]⟩:ByteArray).data.toList=[stop] from rfl,(zx stop (zo s) c).1] at L;clear z m;rw [XO P.o,(zx stop (zo s) c).2.2 P.o] at L;go_wp2_with fail;refine L.o.mono ?_;rintro e w2 ⟨rfl,C,E⟩;have Jd:Hid (GRel step stop R len p S GJ GB w2):=qI (.inr ⟨zo s,c,acc,C,Jj.o,Mc.o,HI.o,D.o _ _ _ Jc.o E⟩);clear C E;go_wp2_with fail;go_loopw [] (fun wr=>GRel step stop R len p S GJ GB wr) (fun wr=>pMeas S p wr);case atStart=>exact Jd.o
  case round=>
   rcases hrel with ⟨x,d,hx,Q⟩ | ⟨s3,c3,Y,d,J,M,ad,X⟩;·have HX:=qI hx;have Me:=qI d;have Mf:=qI Q;obtain⟨i,cc,O,hi,I,h2,h3⟩:=d.open_bad;have d3:=za (o:=3) (v:=.int .i64 x) O rfl;obtain⟨f1,f2⟩:=zq (a:=x) (b:=0) Ws;clear hx d Q O h2 h3 hi I;go_wp2_with fail;go_end0;rw [HX.o];exact⟨rfl,Me.o,Mf.o⟩
   ·have HM:=qI (za5 d);have CO:=qI (HW.o _ _ _ _ d J M X);have Gv:=qI ad;have Mg:=qI M;have Mh:=qI J;obtain⟨i,O,hi,I,h2⟩:=d.open_ok;have d3:=za (o:=3) (v:=.int .i64 0) O rfl;clear d J M ad X O hi I h2;unfold GAns at CO;go_wp2_with fail;refine CO.o.mono ?_;rintro e w4 ⟨rfl,n⟩;clear d3;cases j:step s3 c3 Y with
    | inl x=>rw [j] at n;obtain⟨u,aa⟩:=n;have HX:=qI (Gv.o.bad j);have Mi:=qI aa;have H:=qI (xY u K ⟨#[stop]⟩);rw [show kh (⟨#[stop]⟩:ByteArray).data.toList (.inl x)=false from rfl,vi rfl] at H;clear u aa j;go_wp2_with fail;refine H.o.mono ?_;rintro e w5 ⟨rfl,h,k⟩;have Mj:=qI (HB.o _ _ Mi.o k);have U:=qI (ZG h K ⟨#[44]⟩);rw [Zr rfl] at U;clear h k;go_wp2_with fail;refine U.o.mono ?_;rintro e w6 ⟨rfl,q,A⟩;have Z:Hid (PS w6 p S 4097 (.inl x)):=qI q;have Gf:=qI (HB.o _ _ Mj.o A);clear q A;go_wp2;case roundEnd=>exact⟨.inl ⟨x,Z.o,HX.o,Gf.o⟩,by rw [KQ Z.o,HM.o];omega⟩
    | inr y=>
     obtain⟨G,B,c4⟩:=y;rw [j] at n;obtain⟨u,ab⟩:=n;obtain⟨q1,q2,q3⟩:=Jb.o _ _ _ _ _ _ Mh.o j;have HQ:Hid (B.length≤s3.length∧c4≤4096∧len G≤c4):=qI ⟨q1,q2,q3 Mg.o⟩;have Gd:=qI j;have Jq:=qI ab;have H:=qI (xY u K ⟨#[stop]⟩);rw [show (⟨#[stop]⟩:ByteArray).data.toList=[stop] from rfl,(zx stop B c4).1] at H;clear u ab j q1 q2 q3;by_cases F:B.head? = some stop
     ·rw [XT F,(zx stop B c4).2.1 F] at H;have HX:=qI (Gv.o.done Gd.o F);clear F;go_wp2_with fail;refine H.o.mono ?_;rintro e w5 ⟨rfl,h,k⟩;go_wp2_with fail
      ((try simp only [Exit.inBlock,Exit.then]);refine bodyPost_ret (results_none rfl _ _ _) rfl ?_)
      rw [HX.o];exact⟨rfl,h,D.o _ _ _ Jq.o k,HQ.o.2.1⟩
     ·rw [XO F,(zx stop B c4).2.2 F] at H;have Jr:=qI F;clear F;go_wp2_with fail;refine H.o.mono ?_;rintro e w5 ⟨rfl,h,k⟩;have Mk:=qI (D.o _ _ _ Jq.o k);have U:=qI (ZG h K ⟨#[44]⟩);rw [show (⟨#[44]⟩:ByteArray).data.toList=[44] from rfl] at U;clear h k;go_wp2_with fail;refine U.o.mono ?_;rintro e w6 ⟨rfl,q,A⟩;have Js:=qI (D.o _ _ _ Mk.o A);have Z:=qI q;clear q A;go_wp2;case roundEnd=>
       by_cases h7:B.head? = some 44
       ·have l:=Z.o;rw [(Z2 B c4).1 h7] at l;refine⟨.inr ⟨B.tail,c4,G,l,HQ.o.2.1,HQ.o.2.2,Gv.o.next Gd.o Jr.o h7 HQ.o.1,Js.o⟩,?_⟩;rw [za5 l,HM.o];have:=HQ.o.1;cases B with
        | nil=>cases h7
        | cons a t=>simp only [uE,XP] at *;omega
       ·have l:=Z.o;rw [(Z2 B c4).2 h7] at l;exact⟨.inl ⟨50,l,Gv.o.other Gd.o Jr.o h7,Ja.o _ _ Js.o⟩,by rw [KQ l,HM.o];omega⟩
end
def QNumAns (r:List UInt8)(c p:Nat)(S:ByteArray)(B:Nat)(e:Ending)(w':World):Prop:=
 ∃ z:Int,e = .returned (.int .i64 z)∧match kJ r with
  | .inl x=>QS w' p S B (.inl x)
  | .inr (n,r')=>z=n∧QS w' p S B (.inr (r',c))
theorem Ql {c p B:Nat}{S:ByteArray}{w:World}{x:Int}(h:kJ r = .inl x)(a:QS w p S B (.inl x)):QNumAns r c p S B (.returned (.int .i64 z)) w:=⟨z,rfl,by rw [h];exact a⟩
theorem qnum_ok {a:List UInt8}{c p B:Nat}{S:ByteArray}{w:World}{n:Int}(h:kJ r = .inr (n,a))(d:z=n)(b:QS w p S B (.inr (a,c))):QNumAns r c p S B (.returned (.int .i64 z)) w:=⟨z,rfl,by rw [h];exact⟨d,b⟩⟩
theorem zaf {x:Int}(b:-9223372036854775808≤x)(a:x≤9223372036854775807):wrap64 x=x:=by unfold wrap64;omega
theorem digs_at {R:List UInt8}(a:k<(R.takeWhile yh).length):∃ d,(R.takeWhile yh)[k]=d∧R.drop k=d::R.drop (k+1)∧yh d=true:=by
 have hp:R.takeWhile yh <+: R:=List.takeWhile_prefix _;have b:=hp.length_le;have h2:k<R.length:=Ws;refine⟨_,rfl,?_,?_⟩;·rw [X0 h2,List.IsPrefix.getElem hp a]
 ·have:=List.all_takeWhile (p:=yh) (l:=R);exact Xk.1 this _ (XX a)
theorem digs_end (R:List UInt8):∀ d t,R.drop (R.takeWhile yh).length=d::t→yh d=false:=by
 induction R with
 | nil=>intro d t h;simp at h
 | cons a R ih=>
  intro d t h;cases b:yh a with
  | true=>rw [List.takeWhile_cons_of_pos b] at h;exact ih d t (by simpa using h)
  | false=>rw [List.takeWhile_cons_of_neg (by rw [b];decide)] at h;simp only [Xo,List.drop_zero,VG] at h;rw [← h.1];exact b
theorem dig_range {d:UInt8}(h:yh d=true):48≤d.toNat∧d.toNat≤57:=by
 unfold yh at h;simpa using h
theorem dig_not {d:UInt8}(h:yh d=false):d.toNat<48∨57<d.toNat:=by
 unfold yh at h;simp only [Bool.and_eq_false_iff,ul] at h;omega
theorem digSum_take {l:List UInt8}(h:k<l.length):zU (l.take (k+1))=10*zU (l.take k)+(l[k].toNat-48):=by
 rw [XZ h,zav]
theorem behind_cases (s:List UInt8)(c:Nat)(h:∀ d t,s=d::t→yh d=false) : (jI s [46,101,69]=true∧(qa (.inr (s,c))=46∨qa (.inr (s,c))=101∨qa (.inr (s,c))=69))∨(jI s [46,101,69]=false∧(qa (.inr (s,c))<48∨57<qa (.inr (s,c)))∧qa (.inr (s,c))≠46∧qa (.inr (s,c))≠101∧qa (.inr (s,c))≠69):=by
 cases s with
 | nil=>exact .inr ⟨rfl,by show 0<48∨_;omega,by show 0≠46;decide,by show 0≠101;decide,by show 0≠69;decide⟩
 | cons d t=>
  have hd:=dig_not (h d t rfl);have f:qa (.inr (d::t,c))=d.toNat:=rfl;have b:jI (d::t) [46,101,69]=([46,101,69]:List UInt8).contains d:=rfl;rw [f,b];by_cases a:d=46;·subst a;exact .inl ⟨Wo,.inl rfl⟩
  by_cases h2:d=101;·subst h2;exact .inl ⟨Wo,.inr (.inl rfl)⟩
  by_cases h3:d=69;·subst h3;exact .inl ⟨Wo,.inr (.inr rfl)⟩
  ·refine .inr ⟨by simp [a,h2,h3],hd,fun e=>a (UInt8.toNat_inj.1 e),fun e=>h2 (UInt8.toNat_inj.1 e),fun e=>h3 (UInt8.toNat_inj.1 e)⟩
section
variable {w : World} {p B : Nat} {S : ByteArray} {x : PX}
theorem num_eaten (r:List UInt8)(c:Nat):kh [45] (.inr (r,c))=Z5 r∧Zy [45] (.inr (r,c)) = .inr (jf r,c):=by
 have h:=zx 45 r c;unfold jf Z5;by_cases q:r.head? = some 45;·rw [h.1,h.2.1 q,XT q,XK rfl];exact⟨rfl,rfl⟩
 ·rw [h.1,h.2.2 q,XO q,XJ Wo];exact⟨rfl,rfl⟩
theorem qnumber_any {r:List UInt8}{c:Nat}(h:QS w p S B (.inr (r,c)))(hS:S.size≤262144) : Calls prog 133 #[.pointer (some ⟨p,0,none⟩)] w fun e w'=>QNumAns r c p S B e w'∧zb [p] w w':=by
 have CW:=qI (yT h hS ⟨#[45]⟩ Wo);rw [show (⟨#[45]⟩:ByteArray).data.toList=[45] from rfl,(num_eaten r c).1,(num_eaten r c).2] at CW;obtain⟨i0,Q,ah,al,H⟩:=h.open_ok;obtain⟨c0,c1,c2,c3,fz⟩:=Q.cells;have Ml:Hid (i0≤S.size):=qI ah;have Jj:=qI al;have Mr:Hid (S.size≤262144):=qI hS;clear h Q fz ah al H;go_enter func133,ntmps133;go_wp2_with fail;clear c0 c1 c2 c3;refine CW.o.mono ?_;rintro e w1 ⟨rfl,aj,an⟩;have Jt:=qI aj;have Mm:=qI an;have C:Hid (∀ w',zb [] w1 w'→Calls prog 127 #[.pointer (some ⟨p,0,none⟩)] w' fun r' y=>r' = .returned (.int .u8 (qa (.inr (jf r,c)):Int))∧zb [] w' y):=qI (fun w' k=>Zz (Jt.o.k0 k) hS);clear aj an CW;obtain⟨mi,G⟩:∃ mi,Z5 r=mi:=⟨_,rfl⟩;obtain⟨R,hR⟩:∃ R,jf r=R:=⟨_,rfl⟩;have hD:qn r=R.takeWhile yh:=by unfold qn;rw [hR]
 have am:Hid (∀ w',zb [] w1 w'→∀ e:Int,0<e→e≤1000→Calls prog 83 #[.pointer (some ⟨p,0,none⟩),.int .i64 i0,.int .i64 e] w' fun r' y=>r' = .returned (.tuple #[])∧QS y p S B (.inl e)∧zb [p] w' y):=qI (fun w' k e h0 D=>xH (Jt.o.k0 k) i0 e Ml.o h0 D);rw [hR] at Jt C;rw [G];cases u:R.takeWhile yh with
 | nil=>
  have M:=qI (num_none (r:=r) (by rw [hD,u]));have hb:qa (.inr (R,c))<48∨57<qa (.inr (R,c)):=by
   cases R with
   | nil=>exact .inl (by show 0<48;decide)
   | cons d t=>
    cases hd:yh d with
    | true=>rw [List.takeWhile_cons_of_pos hd] at u;cases u
    | false=>exact dig_not hd
  clear u hD G hR;have hz:decide ((qa (.inr (R,c)):Int)<48)=true∨(decide ((qa (.inr (R,c)):Int)<48)=false∧decide ((57:Int)<(qa (.inr (R,c)):Int))=true):=by
   rcases hb with q | q;·exact .inl (XT Ws)
   ·exact .inr ⟨XO Ws,XT Ws⟩
  clear hb;revert C hz;generalize (qa (.inr (R,c)):Int)=b;intro C hz;have CF:=qI (fun w' k=>am.o w' k 50 Wo Wo);go_wp2_with fail;refine (C.o _ Wd).mono ?_;rintro e w2 ⟨rfl,A⟩;have Je:=qI A;clear A;rcases hz with f1 | ⟨f1,f2⟩
  all_goals
   go_wp2_with fail;refine (CF.o _ Je.o).mono ?_;rintro e w3 ⟨rfl,af,aa⟩;go_wp2;go_ret;exact⟨Ql M.o af,(Mm.o.then Je.o).trans' aa⟩
 | cons d0 t=>
 have H:R.drop 0=d0::R.drop 1∧yh d0=true:=by
  obtain⟨d,O,Y,e3⟩:=digs_at (R:=R) (k:=0) (by rw [u];simp);have e4:d=d0:=by rw [← O];simp [u]
  subst e4;exact⟨Y,e3⟩
 have F:qa (.inr (R,c))=d0.toNat:=by have:=H.1;rw [List.drop_zero] at this;rw [this];rfl
 have ak:=dig_range H.2;have ab:qn r=d0::t:=by rw [hD,u]
 rw [F] at C;have f1:decide ((d0.toNat:Int)<48)=false:=XO Ws;have f2:decide ((57:Int)<(d0.toNat:Int))=false:=XO Ws;by_cases W:d0=48∧mi=true;·obtain⟨rfl,rfl⟩:=W;have M:=qI (zbw ab (.inl G));have CF:=qI (fun w' k=>am.o w' k 50 Wo Wo);clear ab hD u H F G hR ak f1 f2;go_wp2_with fail;refine (C.o _ Wd).mono ?_;rintro e w2 ⟨rfl,A⟩;have Je:=qI A;clear A;go_wp2_with fail;refine (CF.o _ Je.o).mono ?_;rintro e w3 ⟨rfl,af,aa⟩;go_wp2;go_ret;exact⟨Ql M.o af,(Mm.o.then Je.o).trans' aa⟩
 have au:mi=false∨(mi=true∧((d0.toNat:Int) == 48)=false):=by
  cases mi with
  | false=>exact .inl rfl
  | true=>exact .inr ⟨rfl,(zq (fun e=>W ⟨UInt8.toNat_inj.1 (show d0.toNat=48 by omega),rfl⟩)).1⟩
 obtain⟨n,v⟩:∃ n,R.takeWhile yh=n:=⟨_,rfl⟩;have Mu:Hid (∀ k,k<n.length→∃ d,R.drop k=d::R.drop (k+1)∧48≤d.toNat∧d.toNat≤57∧zU (n.take (k+1))=10*zU (n.take k)+(d.toNat-48)):=qI (fun k hk=>by
  subst v;obtain⟨d,O,Y,e3⟩:=digs_at hk;have e4:=dig_range e3;exact⟨d,Y,e4.1,e4.2,by rw [digSum_take hk,O]⟩)
 have Mn:Hid (∀ d t,R.drop n.length=d::t→yh d=false):=qI (by rw [← v];exact digs_end R);have Jf:Hid (n=d0::t∧qn r=n):=qI ⟨by rw [← v,u],by rw [hD,v]⟩;have Ju:Hid (jf r=R∧Z5 r=mi):=qI ⟨hR,G⟩;have ap:n.length≤262144:=by have D:=(List.takeWhile_prefix yh (l:=R)).length_le;rw [v] at D;obtain⟨i,Q,hi,hc,hr⟩:=Jt.o.open_ok;have:=xf hr hi;omega
 have Mv:=qI ap;have Ms:Hid (¬ (d0=48∧mi=true)):=qI W;clear ab hD u H F G hR ak W v ap;go_wp2_with fail;refine (C.o _ Wd).mono ?_;rintro e w2 ⟨rfl,A⟩;have Mw:=qI (Jt.o.k0 A);have Je:=qI (Mm.o.then A);clear A C;rcases au with rfl | ⟨rfl,f3⟩
 case' inl=>go_wp2_with fail
 case' inr=>go_wp2_with fail;clear f3
 all_goals
  clear f1 f2;go_loopw [6,7,8] (fun xx dd bb wr=>∃ (k m:Nat) (g:Bool),xx = .int .i64 (m:Int)∧dd = .int .i64 (k:Int)∧bb = .bool g∧k≤n.length∧Hid (m≤100000000000000000)∧Hid (if g=true then 9007199254740991<zU (n.take k) else (m=zU (n.take k)∧m≤9007199254740991))∧QS wr p S B (.inr (R.drop k,c))∧zb [p] w wr) (fun _ dd _ _=>n.length-(intOf dd).toNat);case atStart=>exact⟨0,0,false,rfl,rfl,rfl,XB,qI Wo,qI (by rw [XJ Wo];exact⟨rfl,Wo⟩),Mw.o,Je.o⟩
  case round=>
   obtain⟨k,m,g,rfl,rfl,rfl,hk,HM,HG,hq,ao⟩:=hrel;have HQ:=qI hq;have Jv:=qI ao;have N:Hid (∀ w',zb [] wr w'→Calls prog 127 #[.pointer (some ⟨p,0,none⟩)] w' fun r' y=>r' = .returned (.int .u8 (qa (.inr (R.drop k,c)):Int))∧zb [] w' y):=qI (fun w' q=>Zz (HQ.o.k0 q) Mr.o);have f:=qI (zb.refl [] wr);obtain⟨i,Q,hi,hc,hr⟩:=HQ.o.open_ok;have H1:=qI Q;have HR:=qI hr;have s:=xf hr hi;have Jg:Hid (∀ w',zb [] wr w'→w'.cell? ⟨p,1,none⟩=some (.int .i64 i)∧w'.frozen? ⟨p,1,none⟩=false):=qI (fun w' q=>by
    have D:=q.heap H1.o Wz;exact⟨za (o:=1) D rfl,zh (o:=1) D⟩)
   clear hq ao Q hr;by_cases P:k<n.length
   ·obtain⟨d,Z,ar,av,ai⟩:=Mu.o k P;have F:qa (.inr (R.drop k,c))=d.toNat:=by rw [Z];rfl
    rw [F] at N;have Gg:=qI P;have Jh:Hid (∀ w',zb [] wr w'→QS (w'.setCell ⟨p,1,none⟩ (.int .i64 ((i:Int)+1))) p S B (.inr (R.drop (k+1),c))∧zb [p] w (w'.setCell ⟨p,1,none⟩ (.int .i64 ((i:Int)+1)))):=qI (fun w' q=>by
     rw [show (i:Int)+1=((i+1:Nat):Int) by omega];have D:QAt w' p S i c 0:=q.heap H1.o Wz;have h8:=QS.good (B:=B) (D.set1 (i+1)) (by rw [Z] at s;simp only [XP] at s;omega) hc;rw [← uD,HR.o,uD] at h8;exact⟨h8,(Jv.o.then q).trans' (yc _ _ _ _)⟩)
    have Gw:=qI ai;obtain⟨z,hz⟩:∃ z:Int,(d.toNat:Int)=z:=⟨_,rfl⟩;have HZ:=qI hz;have aw:(48:Int)≤z:=Ws;have az:z≤(57:Int):=Ws;have ax:(i:Int)<262144:=by rw [Z] at s;simp only [XP] at s;have:=Mr.o;omega
    have ay:(k:Int)<262144:=XC Mv.o;rw [hz] at N;clear Z ar av ai F P s hi hc hz hk;cases g with
    | true=>have E:=HG.o;rw [XK rfl] at E;have Jw:Hid (9007199254740991<zU (n.take (k+1))):=qI (by rw [Gw.o];omega);clear E;go_wp2_with (go_at_call 127;refine (N.o _ f.o).mono ?_;rintro e w9 ⟨rfl,a⟩;replace f:=qI (f.o.then a);obtain⟨d1,d2⟩:=Jg.o _ f.o;clear a);case roundEnd=>obtain⟨O,Y⟩:=Jh.o _ f.o;exact⟨⟨k+1,m,true,rfl,by go_num,rfl,Gg.o,HM,qI (by rw [XK rfl];exact Jw.o),O,Y⟩,by have:=Gg.o;simp [intOf];omega⟩
    | false=>
     have E:=HG.o;rw [XJ Wo] at E;obtain⟨L,ag⟩:∃ L:Nat,L=10*m+(d.toNat - 48):=⟨_,rfl⟩;have hx:wrap64 (wrap64 (10*(m:Int))+(z-48))=(L:Int):=by have h8:=HZ.o;rw [zaf (x:=10*(m:Int)) Ws Ws,zaf Ws Ws,ag];omega
     have Jx:Hid (L=zU (n.take (k+1))∧L≤100000000000000000):=qI (by rw [Gw.o,← E.1];exact⟨ag,by have:=HZ.o;omega⟩);clear E ag;by_cases J:9007199254740991<L;·have Jw:Hid (9007199254740991<zU (n.take (k+1))):=qI (by rw [← Jx.o.1];exact J);have ad:decide ((9007199254740991:Int)<(L:Int))=true:=XT Ws;clear J;go_wp2_with (go_at_call 127;refine (N.o _ f.o).mono ?_;rintro e w9 ⟨rfl,a⟩;replace f:=qI (f.o.then a);obtain⟨d1,d2⟩:=Jg.o _ f.o;clear a);case roundEnd=>obtain⟨O,Y⟩:=Jh.o _ f.o;exact⟨⟨k+1,L,true,by first | rfl | rw [hx],by go_num,by first | rfl | rw [ad],Gg.o,qI Jx.o.2,qI (by rw [XK rfl];exact Jw.o),O,Y⟩,by have:=Gg.o;simp [intOf];omega⟩
     ·have Jw:Hid (L≤9007199254740991):=qI Ws;have ad:decide ((9007199254740991:Int)<(L:Int))=false:=XO Ws;clear J;go_wp2_with (go_at_call 127;refine (N.o _ f.o).mono ?_;rintro e w9 ⟨rfl,a⟩;replace f:=qI (f.o.then a);obtain⟨d1,d2⟩:=Jg.o _ f.o;clear a);case roundEnd=>obtain⟨O,Y⟩:=Jh.o _ f.o;exact⟨⟨k+1,L,false,by first | rfl | rw [hx],by go_num,by first | rfl | rw [ad],Gg.o,qI Jx.o.2,qI (by rw [XJ Wo];exact⟨Jx.o.1,Jw.o⟩),O,Y⟩,by have:=Gg.o;simp [intOf];omega⟩
   ·obtain rfl:k=n.length:=by omega
    have U:=behind_cases (R.drop n.length) c Mn.o;obtain⟨b,hb⟩:∃ b:Nat,qa (.inr (R.drop n.length,c))=b:=⟨_,rfl⟩;rw [hb] at U N;have ae:Hid (∀ w',zb [] wr w'→∀ (j:Nat) (e:Int),j≤S.size→0<e→e≤1000→Calls prog 83 #[.pointer (some ⟨p,0,none⟩),.int .i64 j,.int .i64 e] w' fun r' y=>r' = .returned (.tuple #[])∧QS y p S B (.inl e)∧zb [p] w' y):=qI (fun w' q j e Q h2 h3=>xH (HQ.o.k0 q) j e Q h2 h3);have HI:Hid (i≤S.size):=qI hi;have Mt:Hid (if g=true then 9007199254740991<zU n else (m=zU n∧m≤9007199254740991)):=qI (by have D:=HG.o;rw [Xw] at D;exact D);have hx:decide ((48:Int)≤b)=false∨(decide ((48:Int)≤b)=true∧decide ((b:Int)≤57)=false):=by
     by_cases q:(48:Int)≤b;·refine .inr ⟨XT q,XO ?_⟩;rcases U with ⟨-,h | h | h⟩ | ⟨-,h,-⟩ <;> omega
     ·exact .inl (XO q)
    have HX:=qI hx;clear hx hb hk P hi hc s HG;by_cases X:d0=48∧t≠[]
    ·obtain⟨rfl,ht⟩:=X;have M:=qI (zbw (Jf.o.2.trans Jf.o.1) (.inr ht));have Q:decide ((1:Int)<n.length)=true:=XT (by rw [Jf.o.1,XP];have:=List.length_pos_iff.2 ht;omega);clear ht U;rcases HX.o with q1 | ⟨q1,q2⟩;all_goals
      go_wp2_with (go_at_call 127;refine (N.o _ f.o).mono ?_;rintro e w9 ⟨rfl,a⟩;replace f:=qI (f.o.then a);obtain⟨d1,d2⟩:=Jg.o _ f.o;clear a);refine (ae.o _ f.o i0 50 Ml.o Wo Wo).mono ?_;rintro e w8 ⟨rfl,K,I⟩;go_wp2;go_ret;exact⟨Ql M.o K,(Jv.o.then f.o).trans' I⟩
    ·have Mo:Hid (kJ r=if jI (R.drop n.length) [46,101,69]=true then .inl 51 else if 9007199254740991<zU n then .inl 52 else .inr (if Z5 r=true then -(zU n:Int) else zU n,R.drop n.length)):=qI (by
      have D:=num_fine (Jf.o.2.trans Jf.o.1) (fun q=>by
       rcases q.2 with q2 | q2;·first | exact Ms.o ⟨q.1,Ju.o.2.symm.trans q2⟩ | exact Ms.o ⟨q.1,trivial⟩ | exact absurd (Ju.o.2.symm.trans q2) Wo
       ·exact X ⟨q.1,q2⟩)
      rw [Ju.o.1,Jf.o.2] at D;exact D)
     have q0:((d0.toNat:Int) == 48)=false∨(((d0.toNat:Int) == 48)=true∧decide ((1:Int)<n.length)=false):=by
      by_cases q:d0=48;·refine .inr ⟨(yq (by rw [q];rfl)).1,XO ?_⟩;have ht:t=[]:=Classical.byContradiction fun e=>X ⟨q,e⟩;rw [Jf.o.1,ht];simp
      ·exact .inl (zq (fun e=>q (UInt8.toNat_inj.1 (show d0.toNat=48 by omega)))).1
     have Q0:=qI q0;clear X q0;rcases U with ⟨hh,aq⟩ | ⟨hh,-,n1,n2,n3⟩
     ·have M:Hid (kJ r = .inl 51):=qI (by rw [Mo.o,XK hh]);clear hh;rcases aq with rfl | rfl | rfl <;> rcases Q0.o with q0 | ⟨q0,q0'⟩
      all_goals
       go_wp2_with (go_at_call 127;refine (N.o _ f.o).mono ?_;rintro e w9 ⟨rfl,a⟩;replace f:=qI (f.o.then a);obtain⟨d1,d2⟩:=Jg.o _ f.o;clear a);refine (ae.o _ f.o i 51 HI.o Wo Wo).mono ?_;rintro e w8 ⟨rfl,K,I⟩;go_wp2;go_ret;exact⟨Ql M.o K,(Jv.o.then f.o).trans' I⟩
     ·have p1:((b:Int) == 46)=false:=(zq Ws).1;have p2:((b:Int) == 101)=false:=(zq Ws).1;have p3:((b:Int) == 69)=false:=(zq Ws).1;clear n1 n2 n3;cases g with
      | true=>
       have E:=Mt.o;rw [XK rfl] at E;have M:Hid (kJ r = .inl 52):=qI (by rw [Mo.o,XJ (by rw [hh];decide),XK E]);clear hh E;rcases HX.o with q1 | ⟨q1,q2⟩ <;> rcases Q0.o with q0 | ⟨q0,q0'⟩
       all_goals
        go_wp2_with (go_at_call 127;refine (N.o _ f.o).mono ?_;rintro e w9 ⟨rfl,a⟩;replace f:=qI (f.o.then a);obtain⟨d1,d2⟩:=Jg.o _ f.o;clear a);refine (ae.o _ f.o i0 52 Ml.o Wo Wo).mono ?_;rintro e w8 ⟨rfl,K,I⟩;go_wp2;go_ret;exact⟨Ql M.o K,(Jv.o.then f.o).trans' I⟩
      | false=>
       have E:=Mt.o;rw [XJ Wo] at E;have Mx:=qI E;have M:Hid (kJ r = .inr (if Z5 r=true then -(zU n:Int) else zU n,R.drop n.length)):=qI (by rw [Mo.o,XJ (by rw [hh];decide),XJ Ws]);clear hh E;rcases HX.o with q1 | ⟨q1,q2⟩ <;> rcases Q0.o with q0 | ⟨q0,q0'⟩
       all_goals
        go_wp2_with (go_at_call 127;refine (N.o _ f.o).mono ?_;rintro e w9 ⟨rfl,a⟩;replace f:=qI (f.o.then a);obtain⟨d1,d2⟩:=Jg.o _ f.o;clear a);go_ret;exact⟨qnum_ok M.o (by
         have h8:=Mx.o;first
         | (rw [Ju.o.2,XJ Wo];omega)
         | (rw [Ju.o.2,XK rfl];first | omega | (rw [zaf Ws Ws];omega))) (HQ.o.k0 f.o),(Jv.o.then f.o)⟩
end
end Go.Proofs.YtjccecajigmfkaaGreatDoor

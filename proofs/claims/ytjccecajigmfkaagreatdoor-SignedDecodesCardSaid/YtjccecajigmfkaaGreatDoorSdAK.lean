/- Parts of one proof, merged: XPK XPM XPN XQE XQV. -/
import Derived.Test.YtjccecajigmfkaaGreatDoorSdAJ
set_option linter.all false
set_option maxHeartbeats 12800000
set_option maxRecDepth 100000
namespace Go.Proofs.YtjccecajigmfkaaGreatDoor
open Go.Proofs.Tryz
open Go.RowKit
variable {c':Nat}{r:List UInt8}
section
variable {W w : World} {bv b2 b3 b6 bm p d : Nat} {S : ByteArray} {s : List UInt8} {c : Nat} {acc : List (ByteArray × V d)} {vm : Value} {mcs : List (ByteArray × List Value)}
theorem lit_size {S:ByteArray}{x:PX}{w:World}{p B:Nat}(h:PS w p S B x):(zw (bo x)).size≤S.size:=by
 rw [zZ];cases x with
 | inl e=>simp [bo]
 | inr q=>
  obtain⟨r,c⟩:=q;obtain⟨i,j,d,hc,b⟩:=h.open_ok;have f:=xf b d;cases a:xJ r with
  | inl e=>rw [(bC a).2];simp
  | inr y=>obtain⟨t,k⟩:=y;rw [(vg a).2];have:=(QI a).2;omega
theorem QA {w0 w5 w6 n:World}{l:Option Addr}{m f D Bc:Nat}{key:ByteArray}{cs:List Value}{X:PX}(t:MJ W bv b2 b3 b6 bm p d (acc.map (fun q=>q.1)++[key]) acc w0 (.slice l acc.length m) mcs)(hp:MPos W bv b2 b3 b6 bm p)(y:zb [p] w0 w5)(w:zb (Value.slice l acc.length m).ownBlock.toList w5 w6)(z:zb [bv,f] w6 n)(C:n.heap[bv]? = some (.cells (xD 6 0 ⟨#[]⟩ (.slice none 0 0) (.slice (some ⟨f,0,none⟩) (acc.length+1) D)) 25 (0,0)))(K:n.ownsRow W.heap.size 41 6 (.slice (some ⟨f,0,none⟩) (acc.length+1) D) (acc.length+1) (yM (mcs++[(key,cs)])))(A:(Value.slice l acc.length m).ownBlock=some f∨f=w5.heap.size)(M:W.heap.size≤f)(E:w0.heap.size≤Bc)(L:Qs (acc.map (fun q=>q.1)) (.inr (s,c))=X)(B:bD d X p S Bc cs w5)(I:YK (.inr (s,c))=key):ZR W bv b2 b3 b6 bm p d S s c acc n:=by
 have F:=t.cap.kept.size;have H:=y.size;have r:∀ g,(Value.slice l acc.length m).ownBlock=some g→W.heap.size≤g∧g<w0.heap.size:=fun g A=>t.row.lt g A;have u:MCap W bv b2 b3 b6 bm p d n:=(t.cap.step hp ((y.mono (Y:=p::bv::f::(Value.slice l acc.length m).ownBlock.toList) Wz).trans' ((w.mono (fun i a=>by simp at a ⊢;exact .inr (.inr (.inr a)))).trans' (z.mono (fun i a=>by simp at a ⊢;rcases a with h | h;exact .inr (.inl h);exact .inr (.inr (.inl h)))))) (fun i a=>by
  rcases XY.1 a with h | a;·exact .inl h
  rcases XY.1 a with h | a;·exact .inr (.inl h)
  rcases XY.1 a with h | a;·exact .inr (.inr (.inr Ws))
  ·exact .inr (.inr (.inr (r _ (XD a)).1))))
 have j:∀ b,b<W.heap.size→b≠bv→b ∉ [bv,f]:=fun b J h2 k=>by
  simp at k;rcases k with k | k
  ·exact h2 k
  ·omega
 have e:∀ b,b<W.heap.size→b ∉ (Value.slice l acc.length m).ownBlock.toList:=fun b J k=>by have:=(r _ (XD k)).1;omega
 refine pairAns_of L B (fun x h=>(h.kept w (e _ hp.hp)).kept z (j _ hp.hp (XC hp.ltv))) ⟨u,_,_,_,C⟩ (fun v hv=>?_);rw [I];have G:=t.snoc (key:=key) hp u (((t.saw.kept y (by have:=hp.ltm;simp;omega)).kept w (e _ hp.hm)).kept z (j _ hp.hm hp.vm.symm)) C y w z rfl A K hv E;rw [Xc];exact⟨_,_,G⟩
theorem pairs1_any (a0:qu d)(hp:MPos W bv b2 b3 b6 bm p)(hj:MJ W bv b2 b3 b6 bm p d (acc.map (fun q=>q.1)) acc w vm mcs)(hs:PS w p S 4097 (.inr (s,c)))(hc:c≤4096)(hS:S.size≤262144)(hT:qD p W)(hn:acc.length≤5000) : Calls prog 224 #[.pointer (some ⟨b2,0,none⟩),.pointer (some ⟨b6,0,none⟩),.pointer (some ⟨bv,0,none⟩),.pointer (some ⟨b3,0,none⟩)] w fun e w'=>e = .returned (.tuple #[])∧ZR W bv b2 b3 b6 bm p d S s c acc w':=by
 obtain⟨ak,U,rfl,-,-⟩:=(Slc.of_row hj.row).form;have HJ:=qI hj;have E:=qI hp;have HT:=qI hT;have HN:=qI hn;have Yq:=@qI (qu d) (by exact @a0);have f2:=za (o:=0) (v:=.pointer (some ⟨p,0,none⟩)) hj.cap.ptr rfl;have ah:=qI (kr hs hS);have Yb:=qI (pairX_cnt (acc.map (fun q=>q.1)) s c hc);have Jv:Hid (Qs (acc.map (fun q=>q.1)) (.inr (s,c))=Zk [58] (xg (if (acc.map (fun q=>q.1)).any (fun k=>decide (k=YK (.inr (s,c))))=true then bh 53 (Zb (xg (.inr (s,c)))) else Zb (xg (.inr (s,c)))))):=qI rfl;have Gp:Hid (YK (.inr (s,c))=zw (bo (xg (.inr (s,c))))):=qI rfl;have Yr:Hid ((acc.map (fun q=>q.1)).length≤5000):=qI (by rw [Xb];exact hn);clear hj hs a0 hc hn hT hp;revert ah Gp Jv;generalize xg (.inr (s,c))=X1;intro ah Jv Gp;go_enter func224,ntmps224;go_wp2_with fail;refine ah.o.mono ?_;rintro e w1 ⟨rfl,ag,a1⟩;have Ji:=qI (HJ.o.step E.o a1);have Jb:=qI ag;have a5:=za (o:=0) (v:=.pointer (some ⟨p,0,none⟩)) Ji.o.cap.ptr rfl;obtain⟨i1,c1,e1,av,az,a7⟩:=ag.places;have l1:=za (o:=1) (v:=.int .i64 i1) av rfl;have Ys:=qI az;have Mn:=qI (lit_size ag);have CL:=qI (K1 ag (Ji.o.cap.tabs E.o HT.o) hS);rw [← Gp.o] at CL Mn;clear a1 ag f2 av az a7;go_wp2_with fail;refine CL.o.mono ?_;rintro e w2 ⟨rfl,aw,a3⟩;have Gq:=qI (Ji.o.step E.o a3);have Mo:=qI aw;have g2:=za (o:=0) (v:=.pointer (some ⟨p,0,none⟩)) Gq.o.cap.ptr rfl;have b:=za (o:=0) (v:=.map (some bm)) Gq.o.cap.box rfl;have ad:=Gq.o.saw.look (YK (.inr (s,c))) (XC Mn.o);clear a3 aw a5 l1;obtain⟨XL,Jw⟩:=XE (if (acc.map (fun q=>q.1)).any (fun k=>decide (k=YK (.inr (s,c))))=true then bh 53 (Zb X1) else Zb X1);rw [← Jw.o] at Jv;generalize (acc.map (fun q=>q.1)).any (fun k=>decide (k=YK (.inr (s,c))))=bb at ad Jw;go_upto_if 16 with fail;go_cut [17] from 17 to 19 (fun _ wc=>Hid (PS wc p S 4097 XL)∧Hid (MJ W bv b2 b3 b6 bm p d (acc.map (fun q=>q.1)) acc wc (.slice ak acc.length U) mcs));case first=>
  cases bb
  ·go_wp2;go_meet;exact⟨qI (by rw [Jw.o];exact Mo.o),Gq⟩
  ·go_wp2_with fail;refine (qC Mo.o i1 53 Ys.o Wo Wo).mono ?_;rintro e w3 ⟨rfl,a9,y⟩;have Jn:=qI (Gq.o.step E.o y);go_wp2;go_meet;exact⟨qI (by rw [Jw.o];exact a9),Jn⟩
 case rest=>
  obtain⟨Yc,Jn⟩:=hcut;clear ad g2 b Jw Jb Mo Ji Gq;have b:=za (o:=0) (v:=.map (some bm)) Jn.o.cap.box rfl;obtain⟨w4,ap,ao,aj⟩:=Jn.o.saw.put (YK (.inr (s,c))) (XC Mn.o) (XC Yr.o);have Mp:=qI (Jn.o.put E.o aj ao);have Yd:=qI (Yc.o.kept aj (by have:=E.o.ltm;simp;omega));have m2:=za (o:=0) (v:=.pointer (some ⟨p,0,none⟩)) Mp.o.cap.ptr rfl;clear ao aj;have au:=qI (kr Yd.o hS);go_wp2_with fail;refine au.o.mono ?_;rintro e w5 ⟨rfl,an,ax⟩;have Mq:=qI (Mp.o.step E.o ax);have Ye:=qI an;have n2:=za (o:=0) (v:=.pointer (some ⟨p,0,none⟩)) Mq.o.cap.ptr rfl;clear an ax m2 ap;have ai:=qI (ZG Ye.o hS ⟨#[58]⟩);rw [show (⟨#[58]⟩:ByteArray).data.toList=[58] from rfl,← Jv.o] at ai;go_wp2_with fail;refine ai.o.mono ?_;rintro e w0 ⟨rfl,ar,N⟩;have G:=Mq.o.step E.o N;have Jo:=qI ar;clear ar N n2 ai au CL ah Yc Yd Ye Jn Mp Mq;clear HJ;have HJ:=qI G;have Mi:Hid (∀ g,(Value.slice ak acc.length U).ownBlock=some g→W.heap.size≤g∧g<w0.heap.size):=qI (fun g hg=>G.row.lt g hg);have Mr:Hid (W.heap.size≤w0.heap.size):=qI G.cap.kept.size;have Jp:Hid (mcs.length=acc.length):=qI G.all.1;have Yf:Hid (∀ x,x∈mcs.map xA→x.length=6):=qI (fun x m=>by
   obtain⟨q,hq,rfl⟩:=Xm.1 m;obtain⟨j,aq,rfl⟩:=uI hq;have h9:=(G.all.2 j _ _ (XN aq) (XN (by rw [← G.all.1];exact aq))).2.len;simp [xA,h9])
  have CV:Hid (∀ w',zb [] w0 w'→Calls prog 74 #[.pointer (some ⟨p,0,none⟩),.int .i64 d] w' fun e w2=>k9 d (Qs (acc.map (fun q=>q.1)) (.inr (s,c))) p S w' e w2):=qI (fun w' k=>Yq.o (Jo.o.k0 k) Yb.o hS ((G.cap.tabs E.o HT.o).step (k.mono Wz)));have f3:=za (o:=4) (v:=.slice ak acc.length U) G.blk rfl;have f2:=za (o:=0) (v:=.pointer (some ⟨p,0,none⟩)) G.cap.ptr rfl;have f1:=za (o:=0) (v:=.int .i64 d) G.cap.dep rfl;clear G Jv Jo Yb;have Ms:Hid (Qs (acc.map (fun q=>q.1)) (.inr (s,c))=Qs (acc.map (fun q=>q.1)) (.inr (s,c))):=qI rfl;revert CV Ms;generalize a2:Qs (acc.map (fun q=>q.1)) (.inr (s,c))=X;have Mj:=qI a2;clear a2;intro CV Ms;clear Ms;generalize ay:YK (.inr (s,c))=key at *;have Mk:=qI ay;clear ay;go_wp2_with fail;refine zaO (n:=14) (fun w':World=>w'.cell? ⟨bv,4,none⟩=some (.slice ak acc.length U)∧w'.cell? ⟨b2,0,none⟩=some (.pointer (some ⟨p,0,none⟩))∧w'.cell? ⟨b3,0,none⟩=some (.int .i64 d)) 9 Wr Wr ?_;change yI _ _ _ _ _ _ _ _ _ w0.drew;have a:(fun w':World=>w'.cell? ⟨bv,4,none⟩=some (.slice ak acc.length U)∧w'.cell? ⟨b2,0,none⟩=some (.pointer (some ⟨p,0,none⟩))∧w'.cell? ⟨b3,0,none⟩=some (.int .i64 d)) w0.drew:=⟨f3,f2,f1⟩;have Gh:Hid (zb [] w0 w0.drew):=qI Wd.drew;clear f1 f2 f3;revert a Gh;generalize w0.drew=WD;intro a Gh;refine JB ?_;intro O R D hR;have r:jA R:=by subst hR;exact fun _ _ _ _ _ h=>h
  refine qU 0 ?_ D rfl rfl Wr r (fun w M=>?_) a ?_;rotate_left;·exact zg
  try simp only [XI]
  refine qU 1 ?_ D rfl rfl Wr r (fun w M=>?_) a ?_;rotate_left;·obtain⟨s0,s1,s2⟩:=M;exact zg
  try simp only [XI]
  refine qU 3 ?_ D rfl rfl Wr r (fun w M=>?_) a ?_;rotate_left;·obtain⟨s0,s1,s2⟩:=M;exact zg
  try simp only [XI]
  refine qU 4 ?_ D rfl rfl Wr r (fun w M=>?_) a ?_;rotate_left;·obtain⟨s0,s1,s2⟩:=M;exact zg
  try simp only [XI]
  refine qU 2 ?_ D rfl rfl Wr r (fun w M=>?_) a ?_;rotate_left;·exact zg
  try simp only [XI]
  refine qU 7 ?_ D rfl rfl Wr r (fun w M=>?_) a ?_;rotate_left;·exact zg
  try simp only [XI]
  refine jx (i:=5) (j:=8) D rfl rfl Wr Wr Wr (fun K f=>?_) (fun K f=>?_)
  ·go_simp;refine Calls.mono (CV.o _ Gh.o) ?_;rintro e w3 P;obtain⟨a6,rfl,am,y,af⟩:=P.saidX;obtain⟨k3,m3,s3,p3,i3,d3,q3,j3,e3,rfl⟩:=am;have Yg:=qI y;have Jq:=qI ((Gh.o.mono (Y:=[p]) Wz).trans' y);have Jx:=qI af;have Gr:Hid (w0.heap.size≤WD.heap.size):=qI Gh.o.size;have aa:(fun w':World=>w'.cell? ⟨bv,4,none⟩=some (.slice ak acc.length U)∧w'.cell? ⟨b2,0,none⟩=some (.pointer (some ⟨p,0,none⟩))∧w'.cell? ⟨b3,0,none⟩=some (.int .i64 d)) w3:=⟨y.cell a.1 (by have:=E.o.ltv;simp;omega),y.cell a.2.1 (by simpa using E.o.p2),y.cell a.2.2 (by simpa using E.o.p3)⟩;clear P y af;refine f _ _ (.inr (.inr aa)) ?_;clear f K;try simp only [XI]
   clear a;have a:=aa;clear aa;refine qU 6 ?_ D rfl rfl Wr r (fun w M=>?_) a ?_;rotate_left;·exact zg
   try simp only [XI]
   refine qV 8 D rfl Wr (fun K f=>?_);go_simp;have Gj:Hid (zb [] w3 (w3.alloc (.cells #[.string ⟨#[]⟩,.int .i64 0,.int .i64 0,.string ⟨#[]⟩,.slice none 0 0,.slice none 0 0] 41))):=qI ((zb.refl [] w3).alloc _);have Gb:=qI (yE w3 [.string ⟨#[]⟩,.int .i64 0,.int .i64 0,.string ⟨#[]⟩,.slice none 0 0,.slice none 0 0] 6 1 41 w3.heap.size rfl rfl Wo);have ab:(fun w':World=>w'.cell? ⟨bv,4,none⟩=some (.slice ak acc.length U)∧w'.cell? ⟨b2,0,none⟩=some (.pointer (some ⟨p,0,none⟩))∧w'.cell? ⟨b3,0,none⟩=some (.int .i64 d)) (w3.alloc (.cells #[.string ⟨#[]⟩,.int .i64 0,.int .i64 0,.string ⟨#[]⟩,.slice none 0 0,.slice none 0 0] 41)):=⟨Gj.o.cell a.1 Wz,Gj.o.cell a.2.1 Wz,Gj.o.cell a.2.2 Wz⟩;refine f _ _ (.inr (.inr ab)) ?_;clear f K;try simp only [XI]
   clear a;have a:=ab;clear ab;revert a Gj Gb;generalize w3.alloc (.cells #[.string ⟨#[]⟩,.int .i64 0,.int .i64 0,.string ⟨#[]⟩,.slice none 0 0,.slice none 0 0] 41)=w5;intro Gj Gb a;have Gk:=qI (Jq.o.then Gj.o);have Gs:=qI (Jx.o.k0 Gj.o);clear Jx;have F:=zk HJ.o.row Gk.o (fun i hi m=>by simp at m;have:=(Mi.o i hi).1;have:=E.o.hp;omega);refine qV 9 D rfl Wr (fun K f=>?_);refine qM za1 F Gb.o (by intro u hu;simp only [XY,Xi,uC] at hu;rcases hu with rfl | rfl | rfl | rfl | rfl | rfl <;> rfl) (by have:=HN.o;simp only [maxLen];omega) (XC HN.o) (XH Gk.o.size Mr.o) (.tmp 27) (.tmp 34) rfl rfl rfl ?_;intro al Q w6 l N ae;obtain⟨b,rfl⟩:∃ b,al=some ⟨b,0,none⟩:=by
    rcases l.2 with ⟨h,h1⟩ | ⟨g,cap,a4,hv,_⟩;·omega
    ·simp only [XU] at hv;exact⟨g,hv.1⟩
   have Gt:=qI l;have Gu:=qI N;have Jj:Hid ((Value.slice ak acc.length U).ownBlock=some b∨b=w5.heap.size):=qI (by
    rcases ae with h | h;·exact .inl (by rw [← h];rfl)
    ·exact .inr (by simpa [Value.ownBlock] using h))
   have Gi:Hid (W.heap.size≤b∧b<w6.heap.size):=qI (l.lt b rfl);have Gv:Hid (w6.heap[bv]? = some (.cells (xD 6 0 ⟨#[]⟩ (.slice none 0 0) (.slice ak acc.length U)) 25 (0,0))):=qI (N.heap (Gk.o.heap HJ.o.blk (by have:=E.o.ltv;simp;omega)) (fun m=>by have:=(Mi.o _ (XD m)).1;have:=E.o.hv;omega));have Jc:Hid (bv≠b):=qI (XH Gi.o.1 E.o.hv);clear F l N ae a;refine f _ _ (.inl rfl) ?_;clear f K;try simp only [XI]
   have a8:(acc.length:Int)<(acc.length:Int)+1:=Ws;refine qW 10 ?_ D rfl rfl Wr r (fun w _=>?_) ?_;rotate_left;·exact zg
   try simp only [XI]
   refine qW 12 ?_ D rfl rfl Wr r (fun w _=>?_) ?_;rotate_left;·exact zg
   try simp only [XI]
   have Z:∀ x,x∈(mcs.map xA)++[zaM]→x.length=6:=fun x m=>by
    rcases uO.1 m with m | m;·exact Yf.o x m
    ·simp at m;subst m;rfl
   have I:w6.ownsRow W.heap.size 41 6 (.slice (some ⟨b,0,none⟩) (acc.length+1) Q) (acc.length+1) ((mcs.map xA)++[zaM]).flatten:=by have h9:=Gt.o;rw [qi] at h9;rw [X5];simp only [Xu,uX,Xn];exact h9
   have Jy:=qI I;have Gw:Hid ((((mcs.map xA)++[zaM]).set acc.length [.string key,.int .i64 k3,.int .i64 m3,.string s3,.slice p3 i3 d3,.slice q3 j3 e3]).flatten=yM (mcs++[(key,[.int .i64 k3,.int .i64 m3,.string s3,.slice p3 i3 d3,.slice q3 j3 e3])])):=qI (by
    rw [VI _ _ (by have:=Jp.o;rw [Xb];omega),Xb,Jp.o,VN,qi,Xc];rfl)
   have Gx:=qI Z;have Gl:Hid (((mcs.map xA)++[zaM]).length=acc.length+1):=qI (by rw [XM,Xb,Jp.o];rfl);clear Z I;refine jx (i:=11) (j:=13) D rfl rfl Wr Wr Wr (fun K f=>?_) (fun K f=>?_)
   ·obtain⟨t,H,L⟩:=kf (i:=acc.length) (g:=b) (c:=[.string key,.int .i64 k3,.int .i64 m3,.string s3,.slice p3 i3 d3,.slice q3 j3 e3]) Jy.o Gx.o rfl Gl.o (uo _) rfl;rw [Gw.o] at t;have Jk:=qI t;have Gy:=qI L;clear t L;refine wp_store_mid 41 (.tmp 36) (.tmp 32) rfl b (acc.length*6) #[.string key,.int .i64 k3,.int .i64 m3,.string s3,.slice p3 i3 d3,.slice q3 j3 e3] rfl rfl H Wr (by simp [Value.oneCell']) ?_;refine f _ _ (.inr (.inl Wr)) ?_;clear f K;try simp only [XI]
    have A:=Gy.o.heap Gv.o (by simpa using Jc.o);have Gz:=qI A;have c3:=za (o:=4) (v:=.slice ak acc.length U) A rfl;have z3:=zh (o:=4) A;clear A;refine qV 13 D rfl Wr (fun K f=>?_);go_simp;refine f _ _ (.inr (.inl Wr)) ?_;clear f K;try simp only [XI]
    refine qm D Wr ?_ _;subst hR;try clear r D O
    clear c3 z3 H;have z:=ze (i:=4) (v:=.slice (some ⟨b,0,none⟩) (acc.length+1) Q) Gz.o rfl;have B:=((Gy.o.mono (Y:=[bv,b]) Wz).setCell (p:=⟨bv,4,none⟩) (.inl Wz) (.slice (some ⟨b,0,none⟩) (acc.length+1) Q));have C:=zk Jk.o (yc _ bv 4 (.slice (some ⟨b,0,none⟩) (acc.length+1) Q)) (fun i hi m=>by simp [Value.ownBlock] at hi m;exact Jc.o (by rw [← m,← hi]));revert z B C;generalize World.setCell _ ⟨bv,4,none⟩ (.slice (some ⟨b,0,none⟩) (acc.length+1) Q)=wF;intro z B C;go_wp2_with fail;go_end0;exact⟨rfl,QA HJ.o E.o Gk.o Gu.o B z C Jj.o Gi.o.1 Gr.o Mj.o Gs.o Mk.o⟩
   ·have c3:=za (o:=4) (v:=.slice ak acc.length U) Gv.o rfl;have z3:=zh (o:=4) Gv.o;go_simp;refine f _ _ (.inr (.inl Wr)) ?_;clear f K;try simp only [XI]
    clear c3 z3;have A:=ze (i:=4) (v:=.slice (some ⟨b,0,none⟩) (acc.length+1) Q) Gv.o rfl;have Gz:=qI A;have Jd:=qI (yc w6 bv 4 (.slice (some ⟨b,0,none⟩) (acc.length+1) Q));clear A;revert Gz Jd;generalize w6.setCell ⟨bv,4,none⟩ (.slice (some ⟨b,0,none⟩) (acc.length+1) Q)=w7;intro Gz Jd;have J:=zk Jy.o Jd.o (fun i hi m=>by simp [Value.ownBlock] at hi m;exact Jc.o (by rw [← m,← hi]));obtain⟨t,H,L⟩:=kf (i:=acc.length) (g:=b) (c:=[.string key,.int .i64 k3,.int .i64 m3,.string s3,.slice p3 i3 d3,.slice q3 j3 e3]) J Gx.o rfl Gl.o (uo _) rfl;rw [Gw.o] at t;have Jk:=qI t;have Gy:=qI L;clear t L J;refine qV 11 D rfl Wr (fun K f=>?_);refine wp_store_mid 41 (.tmp 36) (.tmp 32) rfl b (acc.length*6) #[.string key,.int .i64 k3,.int .i64 m3,.string s3,.slice p3 i3 d3,.slice q3 j3 e3] rfl rfl H Wr (by simp [Value.oneCell']) ?_;refine f _ _ (.inr (.inl Wr)) ?_;clear f K;try simp only [XI]
    refine qm D Wr ?_ _;subst hR;try clear r D O
    clear H;have z:=Gy.o.heap Gz.o (by simpa using Jc.o);have B:=((Jd.o.mono (Y:=[bv,b]) Wz).trans' (Gy.o.mono (Y:=[bv,b]) Wz));have C:=Jk.o;revert z B C;generalize World.setCells _ b (acc.length*6) (#[.string key,.int .i64 k3,.int .i64 m3,.string s3,.slice p3 i3 d3,.slice q3 j3 e3]:Array Value).toList=wF;intro z B C;go_wp2_with fail;go_end0;exact⟨rfl,QA HJ.o E.o Gk.o Gu.o B z C Jj.o Gi.o.1 Gr.o Mj.o Gs.o Mk.o⟩
  ·go_simp;have Gj:Hid (zb [] WD (WD.alloc (.cells #[.string ⟨#[]⟩,.int .i64 0,.int .i64 0,.string ⟨#[]⟩,.slice none 0 0,.slice none 0 0] 41))):=qI ((zb.refl [] WD).alloc _);have Gb:=qI (yE WD [.string ⟨#[]⟩,.int .i64 0,.int .i64 0,.string ⟨#[]⟩,.slice none 0 0,.slice none 0 0] 6 1 41 WD.heap.size rfl rfl Wo);have ab:(fun w':World=>w'.cell? ⟨bv,4,none⟩=some (.slice ak acc.length U)∧w'.cell? ⟨b2,0,none⟩=some (.pointer (some ⟨p,0,none⟩))∧w'.cell? ⟨b3,0,none⟩=some (.int .i64 d)) (WD.alloc (.cells #[.string ⟨#[]⟩,.int .i64 0,.int .i64 0,.string ⟨#[]⟩,.slice none 0 0,.slice none 0 0] 41)):=⟨Gj.o.cell a.1 Wz,Gj.o.cell a.2.1 Wz,Gj.o.cell a.2.2 Wz⟩;refine f _ _ (.inr (.inr ab)) ?_;clear f K;try simp only [XI]
   clear a;have a:=ab;clear ab;revert a Gj Gb;generalize WD.alloc (.cells #[.string ⟨#[]⟩,.int .i64 0,.int .i64 0,.string ⟨#[]⟩,.slice none 0 0,.slice none 0 0] 41)=w4;intro Gj Gb a;have Gn:=qI (Gh.o.then Gj.o);refine qV 5 D rfl Wr (fun K f=>?_);go_simp;refine Calls.mono (CV.o _ Gn.o) ?_;rintro e w5 P;obtain⟨a6,rfl,am,y,af⟩:=P.saidX;obtain⟨k3,m3,s3,p3,i3,d3,q3,j3,e3,rfl⟩:=am;have Yg:=qI y;have Jq:=qI ((Gn.o.mono (Y:=[p]) Wz).trans' y);have Jx:=qI af;have Gr:Hid (w0.heap.size≤w4.heap.size):=qI Gn.o.size;have aa:(fun w':World=>w'.cell? ⟨bv,4,none⟩=some (.slice ak acc.length U)∧w'.cell? ⟨b2,0,none⟩=some (.pointer (some ⟨p,0,none⟩))∧w'.cell? ⟨b3,0,none⟩=some (.int .i64 d)) w5:=⟨y.cell a.1 (by have:=E.o.ltv;simp;omega),y.cell a.2.1 (by simpa using E.o.p2),y.cell a.2.2 (by simpa using E.o.p3)⟩;clear P y af;refine f _ _ (.inr (.inr aa)) ?_;clear f K;try simp only [XI]
   clear a;have a:=aa;clear aa;refine qU 6 ?_ D rfl rfl Wr r (fun w M=>?_) a ?_;rotate_left;·exact zg
   try simp only [XI]
   have Gk:=qI Jq.o;have Gs:=qI Jx.o;have Jz:=qI Gb.o;clear Gb;have Gb:=qI (Jz.o.kept Yg.o (fun i hi m=>by simp [yt] at hi m;have:=Gh.o.size;have:=Mr.o;have:=E.o.hp;omega));clear Jx;have F:=zk HJ.o.row Gk.o (fun i hi m=>by simp at m;have:=(Mi.o i hi).1;have:=E.o.hp;omega);refine qV 9 D rfl Wr (fun K f=>?_);refine qM za1 F Gb.o (by intro u hu;simp only [XY,Xi,uC] at hu;rcases hu with rfl | rfl | rfl | rfl | rfl | rfl <;> rfl) (by have:=HN.o;simp only [maxLen];omega) (XC HN.o) (XH Gk.o.size Mr.o) (.tmp 27) (.tmp 34) rfl rfl rfl ?_;intro al Q w6 l N ae;obtain⟨b,rfl⟩:∃ b,al=some ⟨b,0,none⟩:=by
    rcases l.2 with ⟨h,h1⟩ | ⟨g,cap,a4,hv,_⟩;·omega
    ·simp only [XU] at hv;exact⟨g,hv.1⟩
   have Gt:=qI l;have Gu:=qI N;have Jj:Hid ((Value.slice ak acc.length U).ownBlock=some b∨b=w5.heap.size):=qI (by
    rcases ae with h | h;·exact .inl (by rw [← h];rfl)
    ·exact .inr (by simpa [Value.ownBlock] using h))
   have Gi:Hid (W.heap.size≤b∧b<w6.heap.size):=qI (l.lt b rfl);have Gv:Hid (w6.heap[bv]? = some (.cells (xD 6 0 ⟨#[]⟩ (.slice none 0 0) (.slice ak acc.length U)) 25 (0,0))):=qI (N.heap (Gk.o.heap HJ.o.blk (by have:=E.o.ltv;simp;omega)) (fun m=>by have:=(Mi.o _ (XD m)).1;have:=E.o.hv;omega));have Jc:Hid (bv≠b):=qI (XH Gi.o.1 E.o.hv);clear F l N ae a;refine f _ _ (.inl rfl) ?_;clear f K;try simp only [XI]
   have a8:(acc.length:Int)<(acc.length:Int)+1:=Ws;refine qW 10 ?_ D rfl rfl Wr r (fun w _=>?_) ?_;rotate_left;·exact zg
   try simp only [XI]
   refine qW 12 ?_ D rfl rfl Wr r (fun w _=>?_) ?_;rotate_left;·exact zg
   try simp only [XI]
   have Z:∀ x,x∈(mcs.map xA)++[zaM]→x.length=6:=fun x m=>by
    rcases uO.1 m with m | m;·exact Yf.o x m
    ·simp at m;subst m;rfl
   have I:w6.ownsRow W.heap.size 41 6 (.slice (some ⟨b,0,none⟩) (acc.length+1) Q) (acc.length+1) ((mcs.map xA)++[zaM]).flatten:=by have h9:=Gt.o;rw [qi] at h9;rw [X5];simp only [Xu,uX,Xn];exact h9
   have Jy:=qI I;have Gw:Hid ((((mcs.map xA)++[zaM]).set acc.length [.string key,.int .i64 k3,.int .i64 m3,.string s3,.slice p3 i3 d3,.slice q3 j3 e3]).flatten=yM (mcs++[(key,[.int .i64 k3,.int .i64 m3,.string s3,.slice p3 i3 d3,.slice q3 j3 e3])])):=qI (by
    rw [VI _ _ (by have:=Jp.o;rw [Xb];omega),Xb,Jp.o,VN,qi,Xc];rfl)
   have Gx:=qI Z;have Gl:Hid (((mcs.map xA)++[zaM]).length=acc.length+1):=qI (by rw [XM,Xb,Jp.o];rfl);clear Z I;refine jx (i:=11) (j:=13) D rfl rfl Wr Wr Wr (fun K f=>?_) (fun K f=>?_)
   ·obtain⟨t,H,L⟩:=kf (i:=acc.length) (g:=b) (c:=[.string key,.int .i64 k3,.int .i64 m3,.string s3,.slice p3 i3 d3,.slice q3 j3 e3]) Jy.o Gx.o rfl Gl.o (uo _) rfl;rw [Gw.o] at t;have Jk:=qI t;have Gy:=qI L;clear t L;refine wp_store_mid 41 (.tmp 36) (.tmp 32) rfl b (acc.length*6) #[.string key,.int .i64 k3,.int .i64 m3,.string s3,.slice p3 i3 d3,.slice q3 j3 e3] rfl rfl H Wr (by simp [Value.oneCell']) ?_;refine f _ _ (.inr (.inl Wr)) ?_;clear f K;try simp only [XI]
    have A:=Gy.o.heap Gv.o (by simpa using Jc.o);have Gz:=qI A;have c3:=za (o:=4) (v:=.slice ak acc.length U) A rfl;have z3:=zh (o:=4) A;clear A;refine qV 13 D rfl Wr (fun K f=>?_);go_simp;refine f _ _ (.inr (.inl Wr)) ?_;clear f K;try simp only [XI]
    refine qm D Wr ?_ _;subst hR;try clear r D O
    clear c3 z3 H;have z:=ze (i:=4) (v:=.slice (some ⟨b,0,none⟩) (acc.length+1) Q) Gz.o rfl;have B:=((Gy.o.mono (Y:=[bv,b]) Wz).setCell (p:=⟨bv,4,none⟩) (.inl Wz) (.slice (some ⟨b,0,none⟩) (acc.length+1) Q));have C:=zk Jk.o (yc _ bv 4 (.slice (some ⟨b,0,none⟩) (acc.length+1) Q)) (fun i hi m=>by simp [Value.ownBlock] at hi m;exact Jc.o (by rw [← m,← hi]));revert z B C;generalize World.setCell _ ⟨bv,4,none⟩ (.slice (some ⟨b,0,none⟩) (acc.length+1) Q)=wF;intro z B C;go_wp2_with fail;go_end0;exact⟨rfl,QA HJ.o E.o Gk.o Gu.o B z C Jj.o Gi.o.1 Gr.o Mj.o Gs.o Mk.o⟩
   ·have c3:=za (o:=4) (v:=.slice ak acc.length U) Gv.o rfl;have z3:=zh (o:=4) Gv.o;go_simp;refine f _ _ (.inr (.inl Wr)) ?_;clear f K;try simp only [XI]
    clear c3 z3;have A:=ze (i:=4) (v:=.slice (some ⟨b,0,none⟩) (acc.length+1) Q) Gv.o rfl;have Gz:=qI A;have Jd:=qI (yc w6 bv 4 (.slice (some ⟨b,0,none⟩) (acc.length+1) Q));clear A;revert Gz Jd;generalize w6.setCell ⟨bv,4,none⟩ (.slice (some ⟨b,0,none⟩) (acc.length+1) Q)=w7;intro Gz Jd;have J:=zk Jy.o Jd.o (fun i hi m=>by simp [Value.ownBlock] at hi m;exact Jc.o (by rw [← m,← hi]));obtain⟨t,H,L⟩:=kf (i:=acc.length) (g:=b) (c:=[.string key,.int .i64 k3,.int .i64 m3,.string s3,.slice p3 i3 d3,.slice q3 j3 e3]) J Gx.o rfl Gl.o (uo _) rfl;rw [Gw.o] at t;have Jk:=qI t;have Gy:=qI L;clear t L J;refine qV 11 D rfl Wr (fun K f=>?_);refine wp_store_mid 41 (.tmp 36) (.tmp 32) rfl b (acc.length*6) #[.string key,.int .i64 k3,.int .i64 m3,.string s3,.slice p3 i3 d3,.slice q3 j3 e3] rfl rfl H Wr (by simp [Value.oneCell']) ?_;refine f _ _ (.inr (.inl Wr)) ?_;clear f K;try simp only [XI]
    refine qm D Wr ?_ _;subst hR;try clear r D O
    clear H;have z:=Gy.o.heap Gz.o (by simpa using Jc.o);have B:=((Jd.o.mono (Y:=[bv,b]) Wz).trans' (Gy.o.mono (Y:=[bv,b]) Wz));have C:=Jk.o;revert z B C;generalize World.setCells _ b (acc.length*6) (#[.string key,.int .i64 k3,.int .i64 m3,.string s3,.slice p3 i3 d3,.slice q3 j3 e3]:Array Value).toList=wF;intro z B C;go_wp2_with fail;go_end0;exact⟨rfl,QA HJ.o E.o Gk.o Gu.o B z C Jj.o Gi.o.1 Gr.o Mj.o Gs.o Mk.o⟩
end
theorem zaF {d:Nat}:∀ (s:List UInt8) (c:Nat) (acc acc':List (V d)) (r:List UInt8) (c':Nat),c≤4096→zR (zl d) s c acc = .inr (acc',r,c')→r.length≤s.length∧c'≤4096∧(acc.length≤c→acc'.length≤c'):=by
 intro s c acc acc' r c' hc h;obtain⟨b,h2⟩:=listStep_le h;refine⟨b,h2,fun f=>?_⟩;unfold zR at h;cases hv:zl d s c with
 | inl e=>rw [hv] at h;cases h
 | inr y=>
  obtain⟨v,a,c0⟩:=y;rw [hv] at h;simp only at h;injection h with h;injection h with h3 h4;injection h4 with h4 h5;subst h3;subst h5;obtain⟨l,k,j,i⟩:=Z6 d s c v a c0 hv;have:1≤zp d v:=by
   rcases Kn (v:=v) with q | q;·subst q;exact nomatch v
   ·exact q
  rw [XM,List.length_singleton];omega
theorem zam {d:Nat}:∀ (s:List UInt8) (c:Nat) (acc acc':List (ByteArray×V d)) (r:List UInt8) (c':Nat),c≤4096→zO (zl d) s c acc = .inr (acc',r,c')→r.length≤s.length∧c'≤4096∧(acc.length≤c→acc'.length≤c'):=by
 intro s c acc acc' r c' hc h;obtain⟨a,h2⟩:=zaN h;refine⟨a,h2,fun e=>?_⟩;unfold zO at h;split at h;·cases h
 split at h;·cases h
 split at h
 ·split at h;·cases h
  ·rename_i v b c1 hv;injection h with h;injection h with h3 h4;injection h4 with h4 h5;subst h3;subst h5;obtain⟨j,i,k,f⟩:=Z6 d _ c v b c1 hv;have:1≤zp d v:=by
    rcases Kn (v:=v) with q | q;·subst q;exact nomatch v
    ·exact q
   rw [XM,List.length_singleton];omega
 ·cases h
def qR (d:Nat)(R:Sum Int (VS (V d)×List UInt8×Nat))(p:Nat)(S:ByteArray)(w:World)(e:Ending)(w':World):Prop:=
 ∃ cs:List Value,e = .returned (.agg cs.toArray)∧jY cs∧zb [p] w w' ∧
  match R with
  | .inl x=>PS w' p S 4097 (.inl x)
  | .inr (v,r,c')=>PS w' p S 4097 (.inr (r,c'))∧yC (d+1) w.heap.size w' cs v
def vK {d:Nat}:Sum Int (List (V d)×List UInt8×Nat)→Sum Int (VS (V d)×List UInt8×Nat) | .inl e=>.inl e | .inr (l,r,c)=>.inr (⟨5,0,⟨#[]⟩,l,[]⟩,r,c)
def YL {d:Nat}:Sum Int (List (ByteArray×V d)×List UInt8×Nat)→Sum Int (VS (V d)×List UInt8×Nat) | .inl e=>.inl e | .inr (l,r,c)=>.inr (⟨6,0,⟨#[]⟩,[],l⟩,r,c)
theorem bZ {d p:Nat}{R:Sum Int (VS (V d)×List UInt8×Nat)}{S:ByteArray}{w w':World}{cs:List Value}{x:Int}(h:R = .inl x)(a:jY cs)(h2:zb [p] w w')(h3:PS w' p S 4097 (.inl x)):qR d R p S w (.returned (.agg cs.toArray)) w':=⟨cs,rfl,a,h2,by rw [h];exact h3⟩
theorem bH {d p:Nat}{R:Sum Int (VS (V d)×List UInt8×Nat)}{S:ByteArray}{w w':World}{cs:List Value}{v:VS (V d)}(h:R = .inr (v,r,c'))(a:jY cs)(h2:zb [p] w w')(h3:PS w' p S 4097 (.inr (r,c')))(b:yC (d+1) w.heap.size w' cs v):qR d R p S w (.returned (.agg cs.toArray)) w':=⟨cs,rfl,a,h2,by rw [h];exact⟨h3,b⟩⟩
section
variable {w : World} {p d : Nat} {S : ByteArray} {s : List UInt8} {c f : Nat}
theorem bB.g {W w':World}{bv b2 b3:Nat}{acc:List (V d)}(h:bB W bv b2 b3 p d S s c acc w'):GAns (zR (zl d)) p S (fun acc w'=>∃ vl lcs,LJ W bv b2 b3 p d acc w' vl lcs) (LBad W bv b2 b3 p d) s c acc w':=by
 unfold bB at h;unfold GAns;cases e:zR (zl d) s c acc with
 | inl x=>rw [e] at h;exact h
 | inr y=>obtain⟨a,b,q⟩:=y;rw [e] at h;exact h
theorem ZR.g {W w':World}{bv b2 b3 b6 bm:Nat}{acc:List (ByteArray×V d)}(h:ZR W bv b2 b3 b6 bm p d S s c acc w'):GAns (zO (zl d)) p S (fun acc w'=>∃ vm mcs,MJ W bv b2 b3 b6 bm p d (acc.map (fun q=>q.1)) acc w' vm mcs) (MBad W bv b2 b3 b6 bm p d) s c acc w':=by
 unfold ZR at h;unfold GAns;cases e:zO (zl d) s c acc with
 | inl x=>rw [e] at h;exact h
 | inr y=>obtain⟨a,b,q⟩:=y;rw [e] at h;exact h
theorem plist_any (I:qu d)(P:PS w p S 4097 (.inr (s,c)))(hc:c≤4096)(hS:S.size≤262144)(hT:qD p w)(hf:s.length<f) : Calls prog 177 #[.pointer (some ⟨p,0,none⟩),.int .i64 d] w fun e w'=>qR d (vK (ya (zR (zl d)) 93 f s c [])) p S w e w':=by
 obtain⟨m,B⟩:=XE ((((w.alloc (.cells #[.pointer (some ⟨p,0,none⟩)] 107)).alloc (.cells #[.int .i64 d] 3)).alloc (.cells #[.int .i64 0,.int .i64 0,.string ⟨#[]⟩,.slice none 0 0,.slice none 0 0] 25)).alloc (.cells #[.int .i64 5,.int .i64 0,.string ⟨#[]⟩,.slice none 0 0,.slice none 0 0] 25));have Ge:Hid (m.heap.size=w.heap.size+4):=qI (by rw [B.o];simp);have K:Hid (zb [] w m):=qI (by rw [B.o];exact ((((zb.refl [] w).alloc _).alloc _).alloc _).alloc _);have Gc:Hid (p<w.heap.size):=qI P.lt;have Ma:Hid (m.heap[w.heap.size]? = some (.cells #[.pointer (some ⟨p,0,none⟩)] 107 (0,0))):=qI (by
  rw [B.o];exact ((((zb.refl [] _).alloc _).alloc _).alloc _).heap (zd rfl) Wz)
 have Jr:Hid (m.heap[w.heap.size+1]? = some (.cells #[.int .i64 d] 3 (0,0))):=qI (by
  rw [B.o];exact (((zb.refl [] _).alloc _).alloc _).heap (zd Wz) Wz)
 have Ja:Hid (xX m (w.heap.size+1+1)):=qI (by
  rw [B.o];exact ((zb.refl [] _).alloc _).heap (zd Wz) Wz)
 have Mb:Hid (m.heap[w.heap.size+1+1+1]? = some (.cells (xD 5 0 ⟨#[]⟩ (.slice none 0 0) (.slice none 0 0)) 25 (0,0))):=qI (by
  rw [B.o];exact zd Wz)
 have Q:Hid (LPos m (w.heap.size+1+1+1) w.heap.size (w.heap.size+1) p):=qI (by
  have h1:=Gc.o;have h2:=Ge.o;constructor <;> omega)
 have Mc:Hid (LJ m (w.heap.size+1+1+1) w.heap.size (w.heap.size+1) p d [] m (.slice none 0 0) []):=qI ⟨⟨Ma.o,Jr.o,Wd⟩,Mb.o,World.ownsRow_nil _ _ _ _,zL.nil _⟩;have Jo:=qI (P.k0 K.o);have Mt:=qI (hT.step (K.o.mono Wz));have L:=za (o:=0) (v:=.pointer (some ⟨p,0,none⟩)) Ma.o rfl;rw [B.o] at L
 have CI:=qI (items1_any (step:=zR (zl d)) (stop:=93) (p:=p) (S:=S) (w:=m) (GJ:=fun acc w'=>∃ E lcs,LJ m (w.heap.size+1+1+1) w.heap.size (w.heap.size+1) p d acc w' E lcs) (GB:=LBad m (w.heap.size+1+1+1) w.heap.size (w.heap.size+1) p d) (len:=List.length) hS
  (fun s c acc w1 h1 h2 h3 ⟨E,lcs,h4⟩=>(list1_any (by exact @I) Q.o h4 h1 h2 hS Mt.o Ws).mono fun e w2 ⟨q1,q2⟩=>⟨q1,q2.g⟩)
  (fun acc w1 w2 ⟨E,lcs,h4⟩ k=>⟨E,lcs,h4.step Q.o k⟩) (fun w1 w2 h k=>h.step Q.o k) (fun acc w1 ⟨E,lcs,h4⟩=>h4.bad) zaF Jo.o hc (XB) ⟨_,_,Mc.o⟩ hf)
 clear P hc hT hf I;go_enter func177,ntmps177;go_wp2_with fail;rw [← B.o];refine CI.o.mono ?_;rintro e w1 ⟨rfl,b⟩;clear L;have hz:=Ge.o;have aa:=Gc.o;unfold GFin at b;cases D:ya (zR (zl d)) 93 f s c [] with
 | inl x=>
  rw [D] at b;obtain⟨u,t,a,n,z,j⟩:=b;have N:=qI u;have Jl:=qI t;have x0:=za (o:=0) (v:=.int .i64 5) j rfl;have x1:=za (o:=1) (v:=.int .i64 0) j rfl;have x2:=za (o:=2) (v:=.string ⟨#[]⟩) j rfl;have x3:=za (o:=3) (v:=.slice a n z) j rfl;have x4:=za (o:=4) (v:=.slice none 0 0) j rfl;have F:=qI (Ja.o.kept t.kept (by simp;omega));obtain⟨⟨d0,d1,d2,d3,d4⟩,f0,f1,L,f3,f4⟩:=F.o.facts;have U:Hid (vK (ya (zR (zl d)) 93 f s c []) = .inl x):=qI (by rw [D];rfl);clear u t j D;go_wp2_with fail;obtain⟨WF,e⟩:=XF (yf w1 (w.heap.size+1+1) (.int .i64 5) (.int .i64 0) (.string ⟨#[]⟩) (.slice a n z) (.slice none 0 0));obtain⟨C,O,X,y2,M,R⟩:=F.o.stored e;unfold yf at e;rw [← e]
  exact bodyPost_ret (v:=.agg #[.int .i64 5,.int .i64 0,.string ⟨#[]⟩,.slice a n z,.slice none 0 0]) (by simp [results,results177,go_sem,O,X,y2,M,R]) rfl
   (bZ (cs:=[.int .i64 5,.int .i64 0,.string ⟨#[]⟩,.slice a n z,.slice none 0 0]) U.o ⟨_,_,_,_,_,_,_,_,_,rfl⟩ (((K.o.mono (Y:=[p]) Wz).trans Jl.o.kept (fun i A=>by simp at A;rcases A with h | h;exact .inl (by simp [h]);exact .inr Ws)).trans C (fun i A=>by simp at A;exact .inr Ws)) (N.o.kept C (by simp;omega)))
 | inr y=>
  obtain⟨l,r,c'⟩:=y;rw [D] at b;obtain⟨u,⟨E,lcs,G⟩,-⟩:=b;obtain⟨a,z,rfl,-,-⟩:=(Slc.of_row G.row).form;have N:=qI u;have H:=qI G;have j:=G.blk;have x0:=za (o:=0) (v:=.int .i64 5) j rfl;have x1:=za (o:=1) (v:=.int .i64 0) j rfl;have x2:=za (o:=2) (v:=.string ⟨#[]⟩) j rfl;have x3:=za (o:=3) (v:=.slice a l.length z) j rfl;have x4:=za (o:=4) (v:=.slice none 0 0) j rfl;have F:=qI (Ja.o.kept G.cap.kept (by simp;omega));obtain⟨⟨d0,d1,d2,d3,d4⟩,f0,f1,L,f3,f4⟩:=F.o.facts;have U:Hid (vK (ya (zR (zl d)) 93 f s c []) = .inr ((⟨5,0,⟨#[]⟩,l,[]⟩:VS (V d)),r,c')):=qI (by rw [D];rfl);clear u G j D;go_wp2_with fail;obtain⟨WF,e⟩:=XF (yf w1 (w.heap.size+1+1) (.int .i64 5) (.int .i64 0) (.string ⟨#[]⟩) (.slice a l.length z) (.slice none 0 0));obtain⟨C,O,X,y2,M,R⟩:=F.o.stored e;unfold yf at e;rw [← e];have J:yC (d+1) w.heap.size WF [.int .i64 5,.int .i64 0,.string ⟨#[]⟩,.slice a l.length z,.slice none 0 0] (⟨5,0,⟨#[]⟩,l,[]⟩:VS (V d)):=by
   refine⟨_,_,lcs,[],rfl,?_,?_,World.ownsRow_nil _ _ _ _,zL.nil _,rfl,rfl⟩;·exact qA (zk H.o.row C (fun g Z W=>by simp at W;have:=(H.o.row.lt g Z).1;omega)) (fun g Z=>by have:=(H.o.row.lt g Z).1;omega)
   ·exact H.o.all.mono fun _ _ _ q=>q.move C (fun g _ h=>⟨fun W=>by simp at W;omega,Ws,h.2,by simp [Value.ownBlock]⟩)
  exact bodyPost_ret (v:=.agg #[.int .i64 5,.int .i64 0,.string ⟨#[]⟩,.slice a l.length z,.slice none 0 0]) (by simp [results,results177,go_sem,O,X,y2,M,R]) rfl
   (bH (cs:=[.int .i64 5,.int .i64 0,.string ⟨#[]⟩,.slice a l.length z,.slice none 0 0]) U.o ⟨_,_,_,_,_,_,_,_,_,rfl⟩ (((K.o.mono (Y:=[p]) Wz).trans H.o.cap.kept (fun i A=>by simp at A;rcases A with h | h;exact .inl (by simp [h]);exact .inr Ws)).trans C (fun i A=>by simp at A;exact .inr Ws)) (N.o.kept C (by simp;omega)) J)
end
section
variable {w : World} {p d : Nat} {S : ByteArray} {s : List UInt8} {c f : Nat}
theorem pmap_any (H:qu d)(P:PS w p S 4097 (.inr (s,c)))(hc:c≤4096)(hS:S.size≤262144)(hT:qD p w)(hf:s.length<f) : Calls prog 178 #[.pointer (some ⟨p,0,none⟩),.int .i64 d] w fun e w'=>qR d (YL (ya (zO (zl d)) 125 f s c [])) p S w e w':=by
 obtain⟨j,A⟩:=XE ((((((w.alloc (.cells #[.pointer (some ⟨p,0,none⟩)] 107)).alloc (.cells #[.int .i64 d] 3)).alloc (.cells #[.int .i64 0,.int .i64 0,.string ⟨#[]⟩,.slice none 0 0,.slice none 0 0] 25)).alloc (.cells #[.int .i64 6,.int .i64 0,.string ⟨#[]⟩,.slice none 0 0,.slice none 0 0] 25)).alloc (.map #[] 0)).alloc (.cells #[.map (some (w.heap.size+1+1+1+1))] 255));have Ge:Hid (j.heap.size=w.heap.size+6):=qI (by rw [A.o];simp);have J:Hid (zb [] w j):=qI (by rw [A.o];exact ((((((zb.refl [] w).alloc _).alloc _).alloc _).alloc _).alloc _).alloc _);have Gc:Hid (p<w.heap.size):=qI P.lt;have Ma:Hid (j.heap[w.heap.size]? = some (.cells #[.pointer (some ⟨p,0,none⟩)] 107 (0,0))):=qI (by
  rw [A.o];exact ((((((zb.refl [] _).alloc _).alloc _).alloc _).alloc _).alloc _).heap (zd rfl) Wz)
 have Jr:Hid (j.heap[w.heap.size+1]? = some (.cells #[.int .i64 d] 3 (0,0))):=qI (by
  rw [A.o];exact (((((zb.refl [] _).alloc _).alloc _).alloc _).alloc _).heap (zd Wz) Wz)
 have Ja:Hid (xX j (w.heap.size+1+1)):=qI (by
  rw [A.o];exact ((((zb.refl [] _).alloc _).alloc _).alloc _).heap (zd Wz) Wz)
 have Mb:Hid (j.heap[w.heap.size+1+1+1]? = some (.cells (xD 6 0 ⟨#[]⟩ (.slice none 0 0) (.slice none 0 0)) 25 (0,0))):=qI (by
  rw [A.o];exact (((zb.refl [] _).alloc _).alloc _).heap (zd Wz) Wz)
 have Yt:Hid (kt j (w.heap.size+1+1+1+1) []):=qI (by
  rw [A.o];exact (seen_new Wz).k0 ((zb.refl [] _).alloc _))
 have Gv:Hid (j.heap[w.heap.size+1+1+1+1+1]? = some (.cells #[.map (some (w.heap.size+1+1+1+1))] 255 (0,0))):=qI (by
  rw [A.o];exact zd Wz)
 have R:Hid (MPos j (w.heap.size+1+1+1) w.heap.size (w.heap.size+1) (w.heap.size+1+1+1+1+1) (w.heap.size+1+1+1+1) p):=qI (by
  have h1:=Gc.o;have h2:=Ge.o;constructor <;> omega)
 have Mc:Hid (MJ j (w.heap.size+1+1+1) w.heap.size (w.heap.size+1) (w.heap.size+1+1+1+1+1) (w.heap.size+1+1+1+1) p d [] [] j (.slice none 0 0) []):=qI ⟨⟨Ma.o,Jr.o,Gv.o,Wd⟩,Yt.o,Mb.o,World.ownsRow_nil _ _ _ _,zL.nil _⟩;have Jo:=qI (P.k0 J.o);have Mt:=qI (hT.step (J.o.mono Wz));have L:=za (o:=0) (v:=.pointer (some ⟨p,0,none⟩)) Ma.o rfl;rw [A.o] at L
 have CI:=qI (items2_any (acc:=([]:List (ByteArray×V d))) (step:=zO (zl d)) (stop:=125) (p:=p) (S:=S) (w:=j) (GJ:=fun acc w'=>∃ vm mcs,MJ j (w.heap.size+1+1+1) w.heap.size (w.heap.size+1) (w.heap.size+1+1+1+1+1) (w.heap.size+1+1+1+1) p d (acc.map (fun q=>q.1)) acc w' vm mcs) (GB:=MBad j (w.heap.size+1+1+1) w.heap.size (w.heap.size+1) (w.heap.size+1+1+1+1+1) (w.heap.size+1+1+1+1) p d) (len:=List.length) hS
  (fun s c acc w1 h1 h2 h3 ⟨K,lcs,h4⟩=>(pairs1_any (by exact @H) R.o h4 h1 h2 hS Mt.o Ws).mono fun e w2 ⟨q1,q2⟩=>⟨q1,q2.g⟩)
  (fun acc w1 w2 ⟨K,lcs,h4⟩ k=>⟨K,lcs,h4.step R.o k⟩) (fun w1 w2 h k=>h.step R.o k) (fun acc w1 ⟨K,lcs,h4⟩=>h4.bad) zam Jo.o hc (XB) ⟨_,_,Mc.o⟩ hf)
 clear P hc hT hf H;go_enter func178,ntmps178;have Q:=@run_makeMap prog;go_wp2_with fail;clear Q;rw [← A.o];refine CI.o.mono ?_;rintro e w1 ⟨rfl,b⟩;clear L;have hz:=Ge.o;have aa:=Gc.o;unfold GFin at b;cases D:ya (zO (zl d)) 125 f s c [] with
 | inl x=>
  rw [D] at b;obtain⟨u,t,a,n,z,m⟩:=b;have N:=qI u;have Jl:=qI t;have x0:=za (o:=0) (v:=.int .i64 6) m rfl;have x1:=za (o:=1) (v:=.int .i64 0) m rfl;have x2:=za (o:=2) (v:=.string ⟨#[]⟩) m rfl;have x3:=za (o:=3) (v:=.slice none 0 0) m rfl;have x4:=za (o:=4) (v:=.slice a n z) m rfl;have E:=qI (Ja.o.kept t.kept (by simp;omega));obtain⟨⟨d0,d1,d2,d3,d4⟩,f0,f1,L,f3,f4⟩:=E.o.facts;have W:Hid (YL (ya (zO (zl d)) 125 f s c []) = .inl x):=qI (by rw [D];rfl);clear u t m D;go_wp2_with fail;obtain⟨WF,e⟩:=XF (yf w1 (w.heap.size+1+1) (.int .i64 6) (.int .i64 0) (.string ⟨#[]⟩) (.slice none 0 0) (.slice a n z));obtain⟨C,O,Z,y2,M,U⟩:=E.o.stored e;unfold yf at e;rw [← e]
  exact bodyPost_ret (v:=.agg #[.int .i64 6,.int .i64 0,.string ⟨#[]⟩,.slice none 0 0,.slice a n z]) (by simp [results,results178,go_sem,O,Z,y2,M,U]) rfl
   (bZ (cs:=[.int .i64 6,.int .i64 0,.string ⟨#[]⟩,.slice none 0 0,.slice a n z]) W.o ⟨_,_,_,_,_,_,_,_,_,rfl⟩ (((J.o.mono (Y:=[p]) Wz).trans Jl.o.kept (fun i B=>by simp at B;rcases B with h | h | h;exact .inl (by simp [h]);exact .inr Ws;exact .inr Ws)).trans C (fun i B=>by simp at B;exact .inr Ws)) (N.o.kept C (by simp;omega)))
 | inr y=>
  obtain⟨l,r,c'⟩:=y;rw [D] at b;obtain⟨u,⟨K,lcs,F⟩,-⟩:=b;obtain⟨a,z,rfl,-,-⟩:=(Slc.of_row F.row).form;have N:=qI u;have G:=qI F;have m:=F.blk;have x0:=za (o:=0) (v:=.int .i64 6) m rfl;have x1:=za (o:=1) (v:=.int .i64 0) m rfl;have x2:=za (o:=2) (v:=.string ⟨#[]⟩) m rfl;have x3:=za (o:=3) (v:=.slice none 0 0) m rfl;have x4:=za (o:=4) (v:=.slice a l.length z) m rfl;have E:=qI (Ja.o.kept F.cap.kept (by simp;omega));obtain⟨⟨d0,d1,d2,d3,d4⟩,f0,f1,L,f3,f4⟩:=E.o.facts;have W:Hid (YL (ya (zO (zl d)) 125 f s c []) = .inr ((⟨6,0,⟨#[]⟩,[],l⟩:VS (V d)),r,c')):=qI (by rw [D];rfl);clear u F m D;go_wp2_with fail;obtain⟨WF,e⟩:=XF (yf w1 (w.heap.size+1+1) (.int .i64 6) (.int .i64 0) (.string ⟨#[]⟩) (.slice none 0 0) (.slice a l.length z));obtain⟨C,O,Z,y2,M,U⟩:=E.o.stored e;unfold yf at e;rw [← e];have I:yC (d+1) w.heap.size WF [.int .i64 6,.int .i64 0,.string ⟨#[]⟩,.slice none 0 0,.slice a l.length z] (⟨6,0,⟨#[]⟩,[],l⟩:VS (V d)):=by
   refine⟨_,_,[],lcs,rfl,World.ownsRow_nil _ _ _ _,zL.nil _,?_,?_,rfl,rfl⟩;·exact qA (zk G.o.row C (fun g hg X=>by simp at X;have:=(G.o.row.lt g hg).1;omega)) (fun g hg=>by have:=(G.o.row.lt g hg).1;omega)
   ·exact G.o.all.mono fun _ _ _ q=>⟨q.1,q.2.move C (fun g _ h=>⟨fun X=>by simp at X;omega,Ws,by simp [Value.ownBlock],h.2⟩)⟩
  exact bodyPost_ret (v:=.agg #[.int .i64 6,.int .i64 0,.string ⟨#[]⟩,.slice none 0 0,.slice a l.length z]) (by simp [results,results178,go_sem,O,Z,y2,M,U]) rfl
   (bH (cs:=[.int .i64 6,.int .i64 0,.string ⟨#[]⟩,.slice none 0 0,.slice a l.length z]) W.o ⟨_,_,_,_,_,_,_,_,_,rfl⟩ (((J.o.mono (Y:=[p]) Wz).trans G.o.cap.kept (fun i B=>by simp at B;rcases B with h | h | h;exact .inl (by simp [h]);exact .inr Ws;exact .inr Ws)).trans C (fun i B=>by simp at B;exact .inr Ws)) (N.o.kept C (by simp;omega)) I)
end
theorem QS.narrow {w:World}{p:Nat}{S:ByteArray}{c:Nat}(h:QS w p S 4097 (.inr (r,c)))(hc:c≤4096):QS w p S 4096 (.inr (r,c)):=by
 obtain⟨i,c',e,b,h2,h3,a⟩:=h;exact⟨i,c',e,b,h2,by rw [a.2.2];exact hc,a⟩
theorem QS.wide {w:World}{p:Nat}{S:ByteArray}{x:PX}(h:QS w p S 4096 x):QS w p S 4097 x:=by
 obtain⟨i,c',e,a,h2,h3,b⟩:=h;exact⟨i,c',e,a,h2,Ws,b⟩
def za7 (d:Nat)(s:List UInt8)(c p:Nat)(S:ByteArray)(w:World)(e:Ending)(w':World):Prop:=
 ∃ cs:List Value,e = .returned (.agg cs.toArray)∧jY cs∧zb [p] w w' ∧
  match zl d s c with
  | .inl x=>QS w' p S 4097 (.inl x)
  | .inr (v,r,c')=>QS w' p S 4096 (.inr (r,c'))∧yC d w.heap.size w' cs v
def kP (d:Nat):Prop:=∀ {w:World}{p:Nat}{S:ByteArray}{s:List UInt8}{c:Nat},QS w p S 4096 (.inr (s,c))→S.size≤262144 →
 Calls prog 82 #[.pointer (some ⟨p,0,none⟩),.int .i64 d] w fun e w'=>za7 d s c p S w e w'
def K8 (d:Nat)(R:Sum Int (VS (V d)×List UInt8×Nat))(p:Nat)(S:ByteArray)(w:World)(e:Ending)(w':World):Prop:=
 ∃ cs:List Value,e = .returned (.agg cs.toArray)∧jY cs∧zb [p] w w' ∧
  match R with
  | .inl x=>QS w' p S 4097 (.inl x)
  | .inr (v,r,c')=>QS w' p S 4096 (.inr (r,c'))∧yC (d+1) w.heap.size w' cs v
theorem QP {d p:Nat}{R:Sum Int (VS (V d)×List UInt8×Nat)}{S:ByteArray}{w w':World}{cs:List Value}{x:Int}(h:R = .inl x)(a:jY cs)(h2:zb [p] w w')(h3:QS w' p S 4097 (.inl x)):K8 d R p S w (.returned (.agg cs.toArray)) w':=⟨cs,rfl,a,h2,by rw [h];exact h3⟩
theorem jD {d p:Nat}{R:Sum Int (VS (V d)×List UInt8×Nat)}{S:ByteArray}{w w':World}{cs:List Value}{v:VS (V d)}(h:R = .inr (v,r,c'))(a:jY cs)(h2:zb [p] w w')(h3:QS w' p S 4096 (.inr (r,c')))(b:yC (d+1) w.heap.size w' cs v):K8 d R p S w (.returned (.agg cs.toArray)) w':=⟨cs,rfl,a,h2,by rw [h];exact⟨h3,b⟩⟩
structure QJ (W:World)(bv p d:Nat)(acc:List (V d))(w:World)(vl:Value)(lcs:List (List Value)):Prop where
 kept:zb [p,bv] W w
 blk:w.heap[bv]? = some (.cells (xD 5 0 ⟨#[]⟩ vl (.slice none 0 0)) 25 (0,0))
 row:w.ownsRow W.heap.size 25 5 vl acc.length lcs.flatten
 all:zL (Rep d (fun g=>W.heap.size≤g∧vl.ownBlock≠some g) w) lcs acc
section
variable {W w w' : World} {bv p d : Nat}
theorem QJ.step {acc:List (V d)}{e:Value}{lcs:List (List Value)}(h:QJ W bv p d acc w e lcs)(hp:p<W.heap.size)(hv:p≠bv)(k:zb [p] w w'):QJ W bv p d acc w' e lcs:=
 ⟨h.kept.trans k (fun i b=>by simp at b;exact .inl (by simp [b])),k.heap h.blk (by simpa using hv.symm),zk h.row k (fun g f a=>by simp at a;have:=(h.row.lt g f).1;omega),h.all.mono fun _ _ _ r=>r.move k (fun g _ q=>⟨fun a=>by simp at a;omega,q⟩)⟩
theorem QJ.snoc {acc:List (V d)}{k b:Value}{lcs:List (List Value)}{w5 w6 l:World}{cs:List Value}{v:V d}{Bc:Nat}(h:QJ W bv p d acc w k lcs)(hp:p<W.heap.size)(hv:bv<W.heap.size)(z:zb [p,bv] W l)(m:l.heap[bv]? = some (.cells (xD 5 0 ⟨#[]⟩ b (.slice none 0 0)) 25 (0,0)))(x:zb [p] w w5)(t:zb k.ownBlock.toList w5 w6)(u:zb [bv] w6 l)(f:b.ownBlock=k.ownBlock∨b.ownBlock=some w5.heap.size)(n:l.ownsRow W.heap.size 25 5 b (acc.length+1) (lcs.flatten++cs))(s:Rep d (fun i=>Bc≤i) w5 cs v)(B:w.heap.size≤Bc):QJ W bv p d (acc++[v]) l b (lcs++[cs]):=by
 have C:=h.kept.size;have A:=x.size;refine⟨z,m,by rw [XM,X5];simpa using n,zL.snoc (h.all.mono fun c y _ r=>?_) ?_⟩
 ·refine ((r.move (T:=fun i=>W.heap.size≤i∧k.ownBlock≠some i∧i<w.heap.size) x (fun i j q=>⟨fun a=>by simp at a;omega,q.1,q.2,j⟩)).move (T:=fun i=>W.heap.size≤i∧k.ownBlock≠some i∧i<w.heap.size) t (fun i j q=>⟨fun a=>q.2.1 (XD a),q⟩)).move u (fun i j q=>⟨fun a=>by simp at a;omega,q.1,fun a=>?_⟩);rcases f with e | e
  ·exact q.2.1 (e.symm.trans a)
  ·rw [e] at a;injection a with a;omega
 ·refine (s.move (T:=fun i=>Bc≤i∧i<w5.heap.size) t (fun i j q=>⟨fun a=>?_,q,j⟩)).move u (fun i j q=>⟨fun a=>by simp at a;omega,Ws,fun a=>?_⟩);·have:=(h.row.lt i (XD a)).2;omega
  ·rcases f with e | e;·have:=(h.row.lt i (e.symm.trans a)).2;omega
   ·rw [e] at a;injection a with a;omega
end
section
variable {w : World} {p d : Nat} {S : ByteArray} {s : List UInt8} {c f : Nat}
theorem qlist_any (az:kP d)(hd:d≤100)(hs:QS w p S 4096 (.inr (s,c)))(hS:S.size≤262144)(hf:s.length<f) : Calls prog 131 #[.pointer (some ⟨p,0,none⟩),.int .i64 d] w fun e w'=>K8 d (vK (ya (zR (zl d)) 93 f s c [])) p S w e w':=by
 have IH:=@qI (kP d) (by exact @az);obtain⟨F,Ga⟩:=XE ((w.alloc (.cells #[.int .i64 0,.int .i64 0,.string ⟨#[]⟩,.slice none 0 0,.slice none 0 0] 25)).alloc (.cells #[.int .i64 5,.int .i64 0,.string ⟨#[]⟩,.slice none 0 0,.slice none 0 0] 25));have Ge:Hid (F.heap.size=w.heap.size+2):=qI (by rw [Ga.o];simp);have Gg:Hid (zb [] w F):=qI (kA2 Ga.o);have I:Hid (p<w.heap.size):=qI hs.lt;have Ja:Hid (xX F w.heap.size):=qI (by rw [Ga.o];exact ((zb.refl [] _).alloc _).heap (zd rfl) Wz);have Mb:Hid (F.heap[w.heap.size+1]? = some (.cells (xD 5 0 ⟨#[]⟩ (.slice none 0 0) (.slice none 0 0)) 25 (0,0))):=qI (by rw [Ga.o];exact zd Wz);have Mc:Hid (QJ F (w.heap.size+1) p d [] F (.slice none 0 0) []):=qI ⟨Wd,Mb.o,World.ownsRow_nil _ _ _ _,zL.nil _⟩;have CB:=qI (qL (hs.k0 Gg.o) hS);rw [show xg (.inr (s,c)) = .inr (zo s,c) from rfl] at CB;have Js:Hid (S.size≤262144):=qI hS;have HC:Hid (c≤4096):=qI (by obtain⟨i,k,h2,h3,h4⟩:=hs.open_ok;exact h3);have HF:=qI hf;have a4:(d:Int)≤100:=Ws;obtain⟨R,hR⟩:∃ R,ya (zR (zl d)) 93 f s c []=R:=⟨_,rfl⟩;rw [hR];have Yh:=qI hR;clear hs hf hS az hd hR;go_enter func131,ntmps131;go_wp2_with fail;rw [← Ga.o];refine CB.o.mono ?_;rintro e w1 ⟨rfl,ao,aq⟩;have Mu:=qI ao;have Mv:=qI aq;have Ji:=qI (Mc.o.step (by have k:=I.o;have h2:=Ge.o;omega) (by have k:=I.o;omega) aq);have CW:=qI (yT ao Js.o ⟨#[93]⟩ Wo);rw [show (⟨#[93]⟩:ByteArray).data.toList=[93] from rfl,(zx 93 (zo s) c).1] at CW;clear ao aq;by_cases h0:(zo s).head? = some 93
 ·have Gm:Hid (vK R = .inr ((⟨5,0,⟨#[]⟩,[],[]⟩:VS (V d)),(zo s).tail,c)):=qI (by rw [← Yh.o];unfold ya;rw [XK h0];rfl);rw [XT h0,(zx 93 (zo s) c).2.1 h0] at CW;clear h0;go_wp2_with fail;refine CW.o.mono ?_;rintro e w2 ⟨rfl,ag,ai⟩;have Md:=qI ag;have Gq:=qI (Ji.o.step (by have k:=I.o;have h2:=Ge.o;omega) (by have k:=I.o;omega) ai);have Gn:=qI Gq.o.kept;have H:=qI Gq.o.blk;have Jm:Hid (∀ J,zb [w.heap.size] w2 J→yC (d+1) w.heap.size J [.int .i64 5,.int .i64 0,.string ⟨#[]⟩,.slice none 0 0,.slice none 0 0] (⟨5,0,⟨#[]⟩,[],[]⟩:VS (V d))):=qI (fun J _=>⟨_,_,[],[],rfl,World.ownsRow_nil _ _ _ _,zL.nil _,World.ownsRow_nil _ _ _ _,zL.nil _,rfl,rfl⟩);clear ag ai;have x0:=za (o:=0) (v:=.int .i64 5) H.o rfl;have x1:=za (o:=1) (v:=.int .i64 0) H.o rfl;have x2:=za (o:=2) (v:=.string ⟨#[]⟩) H.o rfl;have x3:=za (o:=3) (v:=.slice none 0 0) H.o rfl;have x4:=za (o:=4) (v:=.slice none 0 0) H.o rfl;have Gd:=qI (Ja.o.kept Gn.o (by have k:=I.o;have h2:=Ge.o;simp;omega));obtain⟨⟨d0,d1,d2,d3,d4⟩,f0,f1,f2,f3,f4⟩:=Gd.o.facts;go_wp2_with fail;obtain⟨J,e⟩:=XF (yf w2 w.heap.size (.int .i64 5) (.int .i64 0) (.string ⟨#[]⟩) (.slice none 0 0) (.slice none 0 0));obtain⟨W,y0,y1,y2,y3,y4⟩:=Gd.o.stored e;unfold yf at e;rw [← e];have KK:zb [p] w J:=by have k:=I.o;have h2:=Ge.o;exact ((Gg.o.mono (Y:=[p]) Wz).trans Gn.o (fun i m=>by simp at m;rcases m with h | h;exact .inl (by simp [h]);exact .inr Ws)).trans W (fun i m=>by simp at m;exact .inr Ws)
  have ab:yC (d+1) w.heap.size J [.int .i64 5,.int .i64 0,.string ⟨#[]⟩,.slice none 0 0,.slice none 0 0] (⟨5,0,⟨#[]⟩,[],[]⟩:VS (V d)):=Jm.o _ W
  exact bodyPost_ret (v:=.agg #[.int .i64 5,.int .i64 0,.string ⟨#[]⟩,.slice none 0 0,.slice none 0 0]) (by simp [results,results131,go_sem,y0,y1,y2,y3,y4]) rfl
   (jD (cs:=[.int .i64 5,.int .i64 0,.string ⟨#[]⟩,.slice none 0 0,.slice none 0 0]) Gm.o ⟨_,_,_,_,_,_,_,_,_,rfl⟩ KK (Md.o.kept W (by have k:=I.o;simp;omega)) ab)
 have Yu:Hid (QX (zR (zl d)) 93 R (zo s) c []):=qI ⟨f,by have:=qQ s;have:=HF.o;omega,by rw [← Yh.o];unfold ya;rw [XJ h0]⟩;rw [XO h0,(zx 93 (zo s) c).2.2 h0] at CW;clear h0;go_wp2_with fail;refine CW.o.mono ?_;rintro e w2 ⟨rfl,ag,ai⟩;have Yv:=qI ag;have Gq:=qI (Ji.o.step (by have k:=I.o;have h2:=Ge.o;omega) (by have k:=I.o;omega) ai);clear ag ai;go_wp2_with fail;go_loopw [] (fun wr=>(∃ (s':List UInt8) (c':Nat) (acc:List (V d)) (vl:Value) (lcs:List (List Value)),QS wr p S 4096 (.inr (s',c'))∧acc.length≤c'∧QX (zR (zl d)) 93 R s' c' acc∧QJ F (w.heap.size+1) p d acc wr vl lcs)∨∃ (x:Int) (ka:Option Addr) (kn kc:Nat),QS wr p S 4097 (.inl x)∧R = .inl x∧zb [p,w.heap.size+1] F wr∧wr.heap[w.heap.size+1]? = some (.cells (xD 5 0 ⟨#[]⟩ (.slice ka kn kc) (.slice none 0 0)) 25 (0,0))) (fun wr=>zbZ S p wr);case atStart=>exact .inl ⟨_,_,[],_,_,Yv.o,XB,Yu.o,Gq.o⟩
 case round=>
  rcases hrel with ⟨s',c',acc,vl,lcs,hq,aw,ay,hj⟩ | ⟨x,ka,kn,kc,hq,ax,au,hb⟩;rotate_left
  ·obtain⟨i,ci,k,m,hc,h2,h3⟩:=hq.open_bad;obtain⟨c0,c1,c2,c3,fz⟩:=k.cells;obtain⟨g1,g2⟩:=zq (a:=x) (b:=0) Ws;have Md:=qI hq;have Gn:=qI au;have H:=qI hb;have Gm:Hid (vK R = .inl x):=qI (by rw [ax];rfl);clear hq au hb ax k m hc h2 h3 fz c0 c1 c3;have x0:=za (o:=0) (v:=.int .i64 5) H.o rfl;have x1:=za (o:=1) (v:=.int .i64 0) H.o rfl;have x2:=za (o:=2) (v:=.string ⟨#[]⟩) H.o rfl;have x3:=za (o:=3) (v:=.slice ka kn kc) H.o rfl;have x4:=za (o:=4) (v:=.slice none 0 0) H.o rfl;have Gd:=qI (Ja.o.kept Gn.o (by have k:=I.o;have h2:=Ge.o;simp;omega));obtain⟨⟨d0,d1,d2,d3,d4⟩,f0,f1,f2,f3,f4⟩:=Gd.o.facts;go_wp2_with fail;obtain⟨J,e⟩:=XF (yf wr w.heap.size (.int .i64 5) (.int .i64 0) (.string ⟨#[]⟩) (.slice ka kn kc) (.slice none 0 0));obtain⟨W,y0,y1,y2,y3,y4⟩:=Gd.o.stored e;unfold yf at e;rw [← e];have KK:zb [p] w J:=by have k:=I.o;have h2:=Ge.o;exact ((Gg.o.mono (Y:=[p]) Wz).trans Gn.o (fun i m=>by simp at m;rcases m with h | h;exact .inl (by simp [h]);exact .inr Ws)).trans W (fun i m=>by simp at m;exact .inr Ws)
   exact bodyPost_ret (v:=.agg #[.int .i64 5,.int .i64 0,.string ⟨#[]⟩,.slice ka kn kc,.slice none 0 0]) (by simp [results,results131,go_sem,y0,y1,y2,y3,y4]) rfl
    (QP (cs:=[.int .i64 5,.int .i64 0,.string ⟨#[]⟩,.slice ka kn kc,.slice none 0 0]) Gm.o ⟨_,_,_,_,_,_,_,_,_,rfl⟩ KK (Md.o.kept W (by have k:=I.o;simp;omega)))
  obtain⟨ak,ck,rfl,-,-⟩:=(Slc.of_row hj.row).form;have HM:=qI (jK hq);obtain⟨i,k,m,hc,hr⟩:=hq.open_ok;obtain⟨c0,c1,c2,c3,fz⟩:=k.cells;have HQ:=qI hq;have HJ:=qI hj;have Je:=qI ay;have Ml:Hid (acc.length≤c'∧c'≤4096):=qI ⟨aw,hc⟩;have Yw:=qI hj.blk;have z:Hid (p≠w.heap.size+1∧p<F.heap.size∧w.heap.size+1<F.heap.size):=qI (by have k:=I.o;have h2:=Ge.o;omega);clear hq hj ay k m hc hr fz c0 c1 c3 aw;go_wp2_with fail;clear c2;refine zu (n:=9) (fun w':World=>w'.heap[w.heap.size+1]? = some (.cells (xD 5 0 ⟨#[]⟩ (.slice ak acc.length ck) (.slice none 0 0)) 25 (0,0))∧zb [p,w.heap.size+1] F w') 8 Wr Wr ?_;change zT _ _ _ _ _ _ _ _ _ wr.drew;have Gp:Hid (zb [] wr wr.drew):=qI (zb.refl [] wr).drew;have j:(fun w':World=>w'.heap[w.heap.size+1]? = some (.cells (xD 5 0 ⟨#[]⟩ (.slice ak acc.length ck) (.slice none 0 0)) 25 (0,0))∧zb [p,w.heap.size+1] F w') wr.drew:=⟨Gp.o.heap Yw.o Wz,HJ.o.kept.drew⟩;revert j Gp;generalize wr.drew=W3;intro Gp j;refine zF ?_;intro O R hO hR;have U:jA R:=by subst hR;exact fun _ _ _ _ _ h=>h
  refine qT 0 ?_ hO rfl rfl Wr U (fun w aa=>?_) j ?_;rotate_left;·exact zg
  try simp only [XI]
  refine qT 1 ?_ hO rfl rfl Wr U (fun w aa=>?_) j ?_;rotate_left;·have s3:=za (o:=3) (v:=.slice ak acc.length ck) aa.1 rfl;exact zg
  try simp only [XI]
  refine qT 2 ?_ hO rfl rfl Wr U (fun w aa=>?_) j ?_;rotate_left;·exact zg
  try simp only [XI]
  refine qT 3 ?_ hO rfl rfl Wr U (fun w aa=>?_) j ?_;rotate_left;·exact zg
  try simp only [XI]
  refine qO 4 hO rfl Wr (fun K Z=>?_);go_simp;refine Calls.mono (IH.o (HQ.o.k0 Gp.o) Js.o) ?_;rintro e w4 ⟨a5,rfl,a3,al,l⟩;obtain⟨k5,m5,s5,p5,i5,c5,q5,j5,d5,rfl⟩:=a3;have Me:=qI al;have Mw:=qI l;have ap:(fun w':World=>w'.heap[w.heap.size+1]? = some (.cells (xD 5 0 ⟨#[]⟩ (.slice ak acc.length ck) (.slice none 0 0)) 25 (0,0))∧zb [p,w.heap.size+1] F w') w4:=⟨al.heap j.1 (by have:=z.o.1;simp;omega),j.2.trans al (fun i m=>by simp at m;exact .inl (by simp [m]))⟩;refine Z _ _ (.inr ap) ?_;clear Z K;try simp only [XI]
  clear j al l;have j:=ap;clear ap;have Mf:=qI (zk (zk HJ.o.row Gp.o Wz) Me.o (fun g hg hx=>by simp at hx;have k:=(HJ.o.row.lt g hg).1;have h2:=z.o.2.1;omega));refine qO 5 hO rfl Wr (fun K Z=>?_);go_simp;have ar:(fun w':World=>w'.heap[w.heap.size+1]? = some (.cells (xD 5 0 ⟨#[]⟩ (.slice ak acc.length ck) (.slice none 0 0)) 25 (0,0))∧zb [p,w.heap.size+1] F w') (w4.alloc (.cells #[.int .i64 k5,.int .i64 m5,.string s5,.slice p5 i5 c5,.slice q5 j5 d5] 25)):=⟨((zb.refl [] w4).alloc _).heap j.1 Wz,j.2.alloc _⟩;have Jf:Hid (zb [] w4 (w4.alloc (.cells #[.int .i64 k5,.int .i64 m5,.string s5,.slice p5 i5 c5,.slice q5 j5 d5] 25))):=qI ((zb.refl [] w4).alloc _);have Gb:=qI (yE w4 [.int .i64 k5,.int .i64 m5,.string s5,.slice p5 i5 c5,.slice q5 j5 d5] 5 1 25 w4.heap.size rfl rfl Wo);have Jt:=qI (zk Mf.o Jf.o Wz);refine Z _ _ (.inr ar) ?_;clear Z K;try simp only [XI]
  clear j;have j:=ar;clear ar;revert Jf Gb Jt j;rw [show ([.int .i64 k5,.int .i64 m5,.string s5,.slice p5 i5 c5,.slice q5 j5 d5]:List Value).toArray=#[.int .i64 k5,.int .i64 m5,.string s5,.slice p5 i5 c5,.slice q5 j5 d5] from rfl];generalize w4.alloc (.cells #[.int .i64 k5,.int .i64 m5,.string s5,.slice p5 i5 c5,.slice q5 j5 d5] 25)=w5;intro Jf Gb Jt j;refine qO 6 hO rfl Wr (fun K Z=>?_);refine qM Kr Jt.o Gb.o (jY.one ⟨_,_,_,_,_,_,_,_,_,rfl⟩) (by have:=Ml.o;simp only [maxLen];omega) (XC Ml.o) j.2.size (.tmp 18) (.tmp 22) rfl rfl rfl ?_;intro X Q w6 af am av;have Jh:=qI af;have Gu:=qI am;have Jj:=qI av;have aj:(fun w':World=>w'.heap[w.heap.size+1]? = some (.cells (xD 5 0 ⟨#[]⟩ (.slice ak acc.length ck) (.slice none 0 0)) 25 (0,0))∧zb [p,w.heap.size+1] F w') w6:=⟨am.heap j.1 (fun hx=>by have k:=(Jt.o.lt _ (XD hx)).1;have h2:=z.o.2.2;omega),j.2.trans am (fun i m=>.inr (Jt.o.lt i (XD m)).1)⟩;refine Z _ _ (.inr aj) ?_;clear Z K;try simp only [XI]
  clear j af am av;have j:=aj;have Yi:=qI aj;clear aj;refine qT 7 ?_ hO rfl rfl Wr U (fun w aa=>?_) j ?_;rotate_left;·exact zg
  try simp only [XI]
  have s3:=za (o:=3) (v:=.slice ak acc.length ck) j.1 rfl;have s4:=zh (o:=3) j.1;refine qO 8 hO rfl Wr (fun K Z=>?_);go_simp;refine Z _ _ (.inl rfl) ?_;clear Z K;try simp only [XI]
  refine zE hO Wr ?_ _;subst hR;try clear U hO O
  clear s3 s4 j;have P:=ze (i:=3) (v:=.slice X (acc.length+1) Q) Yi.o.1 (d:=xD 5 0 ⟨#[]⟩ (.slice X (acc.length+1) Q) (.slice none 0 0)) rfl;have ad:=yc w6 (w.heap.size+1) 3 (.slice X (acc.length+1) Q);revert P ad;generalize w6.setCell ⟨w.heap.size+1,3,none⟩ (.slice X (acc.length+1) Q)=wF;intro P ad;have Yj:=qI P;have Mx:=qI ad;have Mg:Hid (zb [p,w.heap.size+1] F wF):=qI (Yi.o.2.trans ad (fun i m=>by simp at m;exact .inl (by simp [m])));clear P ad;have Yk:Hid (∀ x:PX,∀ B,QS w4 p S B x→QS wF p S B x):=qI (fun x B h=>((h.k0 Jf.o).kept Gu.o (fun hx=>by have k:=(Jt.o.lt _ (XD hx)).1;have h2:=z.o.2.1;omega)).kept Mx.o (by have:=z.o.1;simp;omega));have l:=Mw.o;cases hv:zl d s' c' with
  | inl x=>rw [hv] at l;have My:=qI (Yk.o _ _ l);have Mh:Hid (R = .inl x):=qI (Je.o.bad (by unfold zR;rw [hv]));have N:=qI (yT My.o Js.o ⟨#[93]⟩ Wo);clear l hv;go_wp2_with fail;refine N.o.mono ?_;rintro e w8 ⟨rfl,G,C⟩;have M:=qI (yT G Js.o ⟨#[44]⟩ Wo);rw [show kh (⟨#[93]⟩:ByteArray).data.toList (.inl x)=false from rfl];have Yx:=qI C;clear G C;go_wp2_with fail;refine M.o.mono ?_;rintro e w9 ⟨rfl,u,L⟩;rw [show Zy (⟨#[44]⟩:ByteArray).data.toList (Zy (⟨#[93]⟩:ByteArray).data.toList (.inl x)) = .inl x from rfl] at u;rw [show kh (⟨#[44]⟩:ByteArray).data.toList (Zy (⟨#[93]⟩:ByteArray).data.toList (.inl x))=false from rfl];have Yy:=qI (Yx.o.trans' L);have Yz:=qI u;obtain⟨i9,c9,k,ae,an,h2,h3⟩:=u.open_bad;obtain⟨z0,z1,z2,z3,fz⟩:=k.cells;have CF:=qI (xH Yz.o i9 50 ae Wo Wo);clear u L k ae an h2 h3 fz;go_wp2_with fail;clear z0 z1 z2 z3;refine CF.o.mono ?_;rintro e a1 ⟨rfl,E,ah⟩;go_wp2;case roundEnd=>have hk:=Yy.o.trans' ah;exact⟨.inr ⟨x,X,acc.length+1,Q,E,Mh.o,Mg.o.trans hk (fun i m=>by simp at m;exact .inl (by simp [m])),hk.heap Yj.o (by have:=z.o.1;simp;omega)⟩,by rw [QB E,HM.o];omega⟩
  | inr y=>
   obtain⟨v,r,c2⟩:=y;rw [hv] at l;have My:=qI (Yk.o _ _ l.1);have Jg:Hid (zR (zl d) s' c' acc = .inr (acc++[v],r,c2)):=qI (by unfold zR;rw [hv]);have Yl:=qI (Qr hv);have Mz:Hid ((acc++[v]).length≤c2):=qI ((zaF s' c' acc (acc++[v]) r c2 Ml.o.2 Jg.o).2.2 Ml.o.1)
   have Ym:Hid (QJ F (w.heap.size+1) p d (acc++[v]) wF (.slice X (acc.length+1) Q) (lcs++[[.int .i64 k5,.int .i64 m5,.string s5,.slice p5 i5 c5,.slice q5 j5 d5]])):=qI (
    QJ.snoc (w5:=w5) (w6:=w6) (Bc:=W3.heap.size) HJ.o z.o.2.1 z.o.2.2 Mg.o Yj.o (((Gp.o.mono Wz).trans' Me.o).then Jf.o) Gu.o Mx.o Jj.o
     (zk Jh.o Mx.o (fun g hg hx=>by simp at hx;have k:=(Jh.o.lt g hg).1;have h2:=z.o.2.2;omega)) (l.2.rep.k0 Jf.o) Gp.o.size)
   have N:=qI (yT My.o Js.o ⟨#[93]⟩ Wo);rw [show (⟨#[93]⟩:ByteArray).data.toList=[93] from rfl,(zx 93 r c2).1] at N;clear l hv;by_cases D:r.head? = some 93
   ·have Mh:Hid (R = .inr (acc++[v],r.tail,c2)):=qI (Je.o.done Jg.o D);rw [XT D,(zx 93 r c2).2.1 D] at N;clear D;go_wp2_with fail;refine N.o.mono ?_;rintro e w8 ⟨rfl,G,C⟩;have Md:=qI G;have Ju:=qI (Ym.o.step z.o.2.1 z.o.1 C);have Gn:=qI Ju.o.kept;have H:=qI Ju.o.blk;have Gm:Hid (vK R = .inr ((⟨5,0,⟨#[]⟩,acc++[v],[]⟩:VS (V d)),r.tail,c2)):=qI (by rw [Mh.o];rfl);have Gl:Hid ((acc++[v]).length=acc.length+1):=qI Wz;have Jm:Hid (∀ J,zb [w.heap.size] w8 J→yC (d+1) w.heap.size J [.int .i64 5,.int .i64 0,.string ⟨#[]⟩,.slice X (acc.length+1) Q,.slice none 0 0] (⟨5,0,⟨#[]⟩,acc++[v],[]⟩:VS (V d))):=qI (fun J W=>by
     have hz:=Ge.o;refine⟨_,_,lcs++[[.int .i64 k5,.int .i64 m5,.string s5,.slice p5 i5 c5,.slice q5 j5 d5]],[],rfl,?_,?_,World.ownsRow_nil _ _ _ _,zL.nil _,rfl,rfl⟩;·exact qA (zk Ju.o.row W (fun g hg hx=>by simp at hx;have:=(Ju.o.row.lt g hg).1;omega)) (fun g hg=>by have:=(Ju.o.row.lt g hg).1;omega)
     ·exact Ju.o.all.mono fun _ _ _ q=>q.move W (fun g _ h=>⟨fun hx=>by simp at hx;omega,Ws,h.2,by simp [Value.ownBlock]⟩))
    clear G C;have x0:=za (o:=0) (v:=.int .i64 5) H.o rfl;have x1:=za (o:=1) (v:=.int .i64 0) H.o rfl;have x2:=za (o:=2) (v:=.string ⟨#[]⟩) H.o rfl;have x3:=za (o:=3) (v:=.slice X (acc.length+1) Q) H.o rfl;have x4:=za (o:=4) (v:=.slice none 0 0) H.o rfl;have Gd:=qI (Ja.o.kept Gn.o (by have k:=I.o;have h2:=Ge.o;simp;omega));obtain⟨⟨d0,d1,d2,d3,d4⟩,f0,f1,f2,f3,f4⟩:=Gd.o.facts;go_wp2_with fail;obtain⟨J,e⟩:=XF (yf w8 w.heap.size (.int .i64 5) (.int .i64 0) (.string ⟨#[]⟩) (.slice X (acc.length+1) Q) (.slice none 0 0));obtain⟨W,y0,y1,y2,y3,y4⟩:=Gd.o.stored e;unfold yf at e;rw [← e];have KK:zb [p] w J:=by have k:=I.o;have h2:=Ge.o;exact ((Gg.o.mono (Y:=[p]) Wz).trans Gn.o (fun i m=>by simp at m;rcases m with h | h;exact .inl (by simp [h]);exact .inr Ws)).trans W (fun i m=>by simp at m;exact .inr Ws)
    have ab:yC (d+1) w.heap.size J [.int .i64 5,.int .i64 0,.string ⟨#[]⟩,.slice X (acc.length+1) Q,.slice none 0 0] (⟨5,0,⟨#[]⟩,acc++[v],[]⟩:VS (V d)):=Jm.o _ W
    exact bodyPost_ret (v:=.agg #[.int .i64 5,.int .i64 0,.string ⟨#[]⟩,.slice X (acc.length+1) Q,.slice none 0 0]) (by simp [results,results131,go_sem,y0,y1,y2,y3,y4]) rfl
     (jD (cs:=[.int .i64 5,.int .i64 0,.string ⟨#[]⟩,.slice X (acc.length+1) Q,.slice none 0 0]) Gm.o ⟨_,_,_,_,_,_,_,_,_,rfl⟩ KK (Md.o.kept W (by have k:=I.o;simp;omega)) ab)
   ·rw [XO D,(zx 93 r c2).2.2 D] at N;have a0:=qI D;clear D;go_wp2_with fail;refine N.o.mono ?_;rintro e w8 ⟨rfl,G,C⟩;have Yn:=qI (Ym.o.step z.o.2.1 z.o.1 C);have M:=qI (yT G Js.o ⟨#[44]⟩ Wo);rw [show (⟨#[44]⟩:ByteArray).data.toList=[44] from rfl,(zx 44 r c2).1] at M;clear G C;by_cases A:r.head? = some 44
    ·rw [XT A,(zx 44 r c2).2.1 A] at M;have Ya:=qI (Je.o.next Jg.o a0.o A Yl.o.1);have Da:Hid (r.tail.length<s'.length):=qI (by
      have k:=Yl.o.1;cases r with
      | nil=>cases A
      | cons q t=>simp only [XP,uE] at *;omega)
     clear A;go_wp2_with fail;refine M.o.mono ?_;rintro e w9 ⟨rfl,u,L⟩;go_wp2;case roundEnd=>exact⟨.inl ⟨_,_,_,_,_,u,Mz.o,Ya.o,Yn.o.step z.o.2.1 z.o.1 L⟩,by rw [jK u,HM.o];have:=Da.o;omega⟩
    ·rw [XO A,(zx 44 r c2).2.2 A] at M;have Mh:Hid (R = .inl 50):=qI (Je.o.other Jg.o a0.o A);clear A;go_wp2_with fail;refine M.o.mono ?_;rintro e w9 ⟨rfl,u,L⟩;have Db:=qI (Yn.o.step z.o.2.1 z.o.1 L);obtain⟨i9,k,ae,an,a2⟩:=u.open_ok;obtain⟨z0,z1,z2,z3,fz⟩:=k.cells;have CF:=qI (xH u.wide i9 50 ae Wo Wo);clear u L k ae an a2 fz;go_wp2_with fail;clear z0 z1 z2 z3;refine CF.o.mono ?_;rintro e a1 ⟨rfl,E,ah⟩;have Yo:=qI (Db.o.step z.o.2.1 z.o.1 ah);go_wp2;case roundEnd=>exact⟨.inr ⟨50,X,acc.length+1,Q,E,Mh.o,Yo.o.kept,Yo.o.blk⟩,by rw [QB E,HM.o];omega⟩
end
section
variable {w : World} {p B : Nat} {S : ByteArray} {x : PX}
theorem qahead_any (h:QS w p S B x)(I:S.size≤262144)(W:ByteArray)(J:W.size≤1000) : Calls prog 128 #[.pointer (some ⟨p,0,none⟩),.string W] w fun r w'=>r = .returned (.bool (kh W.data.toList x))∧zb [] w w':=by
 cases x with
 | inl e0=>
  obtain⟨i,c,j,k,hc,h2,h3⟩:=h.open_bad;obtain⟨c0,c1,c2,c3,n⟩:=j.cells;obtain⟨f,-⟩:=zq (a:=e0) (b:=0) Ws;have E:=zt c2;clear h j n;go_enter func128,ntmps128;go_wp2_with fail;refine zI w Wr Wr Wd ?_;clear c0 c1 c2 c3;repeat go_big_quiet_step (fail)
  refine wpQuiet_nil ?_;intro w2 d;clear E;go_wp2;go_ret;exact⟨rfl,d⟩
 | inr q=>
  obtain⟨r,c⟩:=q;obtain⟨i,j,k,hc,s⟩:=h.open_ok;obtain⟨c0,c1,c2,c3,n⟩:=j.cells;have z:=zt c0;have D:=zt c1;have C:=zt c2;have A:=xf s k;by_cases e:r.length<W.size
  ·have H:Hid (kh W.data.toList (.inr (r,c))=false):=qI (word_long e);have l:decide ((W.size:Int)≤S.size-i)=false:=XO Ws;have m:¬ ((W.size:Int)≤S.size-i):=Ws;have F:(i:Int)≤S.size:=Ws;have t:(S.size:Int)≤262144:=Ws;clear h j n s k hc A e;go_enter func128,ntmps128;go_wp2_with fail;refine zI w Wr Wr Wd ?_;clear c0 c1 c2 c3;repeat go_big_quiet_step (fail)
   refine wpQuiet_nil ?_;intro w2 d;clear z D C;go_wp2;go_ret;rw [H.o];exact⟨rfl,d⟩
  have l:decide ((W.size:Int)≤S.size-i)=true:=XT Ws;have m:(W.size:Int)≤S.size-i:=Ws;have u:=word_test (W:=W) s Ws k;have G:(i:Int)+W.size≤S.size:=Ws;have t:(S.size:Int)≤262144:=Ws;have v:kh W.data.toList (.inr (r,c))=W.data.toList.isPrefixOf r:=rfl;rw [v];have y:=str_test u;revert y;generalize W.data.toList.isPrefixOf r=b;intro y;clear h j n k hc A e s u v;cases b;all_goals
   go_enter func128,ntmps128;go_wp2_with fail;refine zI w Wr Wr Wd ?_;clear c0 c1 c2 c3;repeat go_big_quiet_step (fail)
   refine wpQuiet_nil ?_;intro w2 d;clear z D C;go_wp2;go_ret;exact⟨rfl,d⟩
end
section
variable {w : World} {p : Nat} {S : ByteArray}
theorem qvalue_bad {x:Int}(h:QS w p S 4096 (.inl x))(D:S.size≤262144)(d:Int) : Calls prog 82 #[.pointer (some ⟨p,0,none⟩),.int .i64 d] w fun e w'=>e = .returned (.agg zeroA)∧QS w' p S 4097 (.inl x)∧zb [p] w w':=by
 obtain⟨y,A⟩:=XE (w.alloc (.cells #[.int .i64 0,.int .i64 0,.string ⟨#[]⟩,.slice none 0 0,.slice none 0 0] 25));have I:Hid (zb [] w y):=qI (kA1 A.o);have Ge:Hid (y.heap.size=w.heap.size+1):=qI (by rw [A.o];simp);have B:Hid (p<w.heap.size):=qI h.lt;have Ja:Hid (xX y w.heap.size):=qI (by rw [A.o];exact zd rfl);have X:=qI (qL (h.k0 I.o) D);rw [show xg (.inl x) = .inl x from rfl] at X;have F:=qI D;clear h D;go_enter func82,ntmps82;go_wp2_with fail;rw [← A.o];refine X.o.mono ?_;rintro e w1 ⟨rfl,q,s⟩;have Mu:=qI q;have H:=qI s;clear q s;go_wp2_with fail;refine (Zz Mu.o F.o).mono ?_;rintro e w2 ⟨rfl,j⟩;rw [show ((qa (.inl x):Nat):Int)=0 from rfl];obtain⟨z,u⟩:=XE (w2.alloc (.cells #[.int .i64 0,.int .i64 0,.string ⟨#[]⟩,.slice none 0 0,.slice none 0 0] 25));have N:Hid (zb [] w1 z):=qI (by rw [u.o];exact j.alloc _);have W:Hid (z.heap[w2.heap.size]? = some (.cells #[.int .i64 0,.int .i64 0,.string ⟨#[]⟩,.slice none 0 0,.slice none 0 0] 25 (0,0))):=qI (by rw [u.o];exact zd rfl);have U:Hid (w.heap.size+1≤w2.heap.size):=qI (by have f:=Ge.o;have h2:=H.o.size;have h3:=j.size;omega);obtain⟨i,c,f,C,hc,h2,h3⟩:=(Mu.o.k0 N.o).open_bad;have H1:=qI f;have l:Hid (i≤S.size∧c≤4096∧0<x∧x≤1000):=qI ⟨C,hc,h2,h3⟩;have aa:(c:Int)≤4096:=Ws;obtain⟨K,M,O,G,Q⟩:=f.cells;have E:=Q 3;rw [u.o] at K M O G E;clear f C hc h2 h3 j Q;go_wp2_with fail;rw [← u.o];clear K M O G E;have a:=H1.o.set3 (c+1);have b:=yc z p 3 (.int .i64 ((c+1:Nat)));rw [show ((c+1:Nat):Int)=(c:Int)+1 by omega] at a b;revert a b;generalize z.setCell ⟨p,3,none⟩ (.int .i64 ((c:Int)+1))=w4;intro a b;have Dc:Hid (QS w4 p S 4097 (.inl x)):=qI (QS.bad a l.o.1 (XC l.o.2.1) l.o.2.2.1 l.o.2.2.2);have L:=qI b;clear a b;have Df:Hid (w4.heap[w2.heap.size]? = some (.cells #[.int .i64 0,.int .i64 0,.string ⟨#[]⟩,.slice none 0 0,.slice none 0 0] 25 (0,0))):=qI (L.o.heap W.o (by have f:=U.o;have h2:=B.o;simp;omega));have CF:=qI (xH Dc.o i 50 l.o.1 Wo Wo);refine CF.o.mono ?_;rintro e w5 ⟨rfl,m,n⟩;have Dd:Hid (QS w5 p S 4097 (.inl x)):=qI m;have Gk:=qI (L.o.trans' n);clear m n;go_wp2_with fail;refine (qL Dd.o F.o).mono ?_;rintro e w6 ⟨rfl,r,t⟩;have De:Hid (QS w6 p S 4097 (.inl x)):=qI r;have R:=qI (Gk.o.trans' t);clear r t;have k:=R.o.heap W.o (by have f:=U.o;have h2:=B.o;simp;omega);have x0:=za (o:=0) (v:=.int .i64 0) k rfl;have x1:=za (o:=1) (v:=.int .i64 0) k rfl;have x2:=za (o:=2) (v:=.string ⟨#[]⟩) k rfl;have x3:=za (o:=3) (v:=.slice none 0 0) k rfl;have x4:=za (o:=4) (v:=.slice none 0 0) k rfl;have P:Hid (zb [p] y w6):=qI ((H.o.then N.o).trans' R.o);have J:=qI (Ja.o.kept P.o (by have f:=B.o;simp;omega));obtain⟨⟨d0,d1,d2,d3,d4⟩,f0,f1,f2,E,f4⟩:=J.o.facts;clear k;go_wp2_with fail;obtain⟨WF,e⟩:=XF (yf w6 w.heap.size (.int .i64 0) (.int .i64 0) (.string ⟨#[]⟩) (.slice none 0 0) (.slice none 0 0));obtain⟨Z,y0,y1,y2,y3,y4⟩:=J.o.stored e;unfold yf at e;rw [← e]
 exact bodyPost_ret (v:=.agg #[.int .i64 0,.int .i64 0,.string ⟨#[]⟩,.slice none 0 0,.slice none 0 0]) (by simp [results,results82,go_sem,y0,y1,y2,y3,y4]) rfl
  ⟨rfl,De.o.kept Z (by have f:=B.o;simp;omega),((I.o.mono (Y:=[p]) Wz).trans' P.o).trans Z (fun i C=>by simp at C;exact .inr Ws)⟩
end
end Go.Proofs.YtjccecajigmfkaaGreatDoor

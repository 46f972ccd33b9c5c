/- Parts of one proof, merged: XPK. -/
import Derived.Test.YtjccecajigmfkaaGreatDoorSgAB
set_option linter.all false
set_option maxHeartbeats 12800000
set_option maxRecDepth 10000
namespace Go.Proofs.YtjccecajigmfkaaGreatDoor
open Go.Proofs.Tryz
open Go.RowKit
section
variable {W w : World} {bv b2 b3 b6 bm p d : Nat} {S : ByteArray} {s : List UInt8} {c : Nat} {acc : List (ByteArray × V d)} {vm : Value} {mcs : List (ByteArray × List Value)}
theorem lit_size {S:ByteArray}{x:PX}{w:World}{p B:Nat}(h:PS w p S B x):(zx (JN x)).size≤S.size:=by
 rw [yd];cases x with
 | inl e=>simp [JN]
 | inr q=>
  obtain⟨r,c⟩:=q;obtain⟨i,k,d,hc,b⟩:=h.open_ok;have j:=yO b d;cases a:kH r with
  | inl e=>rw [(YQ a).2];simp
  | inr y=>obtain⟨t,f⟩:=y;rw [(Qo a).2];have:=(Qm a).2;omega
theorem pairs1_any (aB:qt d)(hp:MPos W bv b2 b3 b6 bm p)(hj:MJ W bv b2 b3 b6 bm p d (acc.map (fun q=>q.1)) acc w vm mcs)(hs:PS w p S 4097 (.inr (s,c)))(hc:c≤4096)(hS:S.size≤262144)(hT:qA p W)(hn:acc.length≤5000) : Calls prog 224 #[.pointer (some ⟨b2,0,none⟩),.pointer (some ⟨b6,0,none⟩),.pointer (some ⟨bv,0,none⟩),.pointer (some ⟨b3,0,none⟩)] w fun e w'=>e = .returned (.tuple #[])∧Qh W bv b2 b3 b6 bm p d S s c acc w':=by
 obtain⟨M,L,rfl,-,-⟩:=(Slc.of_row hj.row).form;have HJ:=qI hj;have r:=qI hp;have HT:=qI hT;have HN:=qI hn;have Jx:=@qI (qt d) (by exact @aB);have f2:=za (o:=0) (v:=.pointer (some ⟨p,0,none⟩)) hj.cap.ptr rfl;have a1:=qI (qv hs hS);have Js:=qI (pairX_cnt (acc.map (fun q=>q.1)) s c hc);have Je:Hid (vy (acc.map (fun q=>q.1)) (.inr (s,c))=Z3 [58] (kL (if (acc.map (fun q=>q.1)).any (fun k=>decide (k=Yy (.inr (s,c))))=true then zbk 53 (Q6 (kL (.inr (s,c)))) else Q6 (kL (.inr (s,c)))))):=qI rfl;have Jw:Hid (Yy (.inr (s,c))=zx (JN (kL (.inr (s,c))))):=qI rfl;have Jy:Hid ((acc.map (fun q=>q.1)).length≤5000):=qI (by rw [List.length_map];exact hn);clear hj hs aB hc hn hT hp;revert a1 Jw Je;generalize kL (.inr (s,c))=X1;intro a1 Je Jw;go_enter func224,ntmps224;go_wp2_with fail;refine a1.o.mono ?_;rintro e w1 ⟨rfl,az,aC⟩;have Jl:=qI (HJ.o.step r.o aC);have Jz:=qI az;have aI:=za (o:=0) (v:=.pointer (some ⟨p,0,none⟩)) Jl.o.cap.ptr rfl;obtain⟨i1,c1,e1,aD,aA,aH⟩:=az.places;have l1:=za (o:=1) (v:=.int .i64 i1) aD rfl;have Mb:=qI aA;have Jt:=qI (lit_size az);have CL:=qI (Ka az (Jl.o.cap.tabs r.o HT.o) hS);rw [← Jw.o] at CL Jt;clear aC az f2 aD aA aH;go_wp2_with fail;refine CL.o.mono ?_;rintro e w2 ⟨rfl,aE,aF⟩;have Jf:=qI (Jl.o.step r.o aF);have Ju:=qI aE;have g2:=za (o:=0) (v:=.pointer (some ⟨p,0,none⟩)) Jf.o.cap.ptr rfl;have m:=za (o:=0) (v:=.map (some bm)) Jf.o.cap.box rfl;have ao:=Jf.o.saw.look (Yy (.inr (s,c))) (XC Jt.o);clear aF aE aI l1;cases hb:(acc.map (fun q=>q.1)).any (fun k=>decide (k=Yy (.inr (s,c))))
 ·rw [hb] at ao Je;have Jm:Hid (vy (acc.map (fun q=>q.1)) (.inr (s,c))=Z3 [58] (kL (Q6 X1))):=qI Je.o;clear hb;obtain⟨w4,a0,ax,ar⟩:=Jf.o.saw.put (Yy (.inr (s,c))) (XC Jt.o) (XC Jy.o);have Jg:=qI (Jf.o.put r.o ar ax);have Jn:=qI (Ju.o.kept ar (by have:=r.o.ltm;simp;omega));have m2:=za (o:=0) (v:=.pointer (some ⟨p,0,none⟩)) Jg.o.cap.ptr rfl;clear ax ar;have ay:=qI (qv Jn.o hS);go_wp2_with fail;refine ay.o.mono ?_;rintro e w5 ⟨rfl,a4,aw⟩;have Jh:=qI (Jg.o.step r.o aw);have Jo:=qI a4;have n2:=za (o:=0) (v:=.pointer (some ⟨p,0,none⟩)) Jh.o.cap.ptr rfl;clear a4 aw m2 a0;have an:=qI (vN Jo.o hS ⟨#[58]⟩);rw [show (⟨#[58]⟩:ByteArray).data.toList=[58] from rfl,← Jm.o] at an;go_wp2_with fail;refine an.o.mono ?_;rintro e w0 ⟨rfl,a5,af⟩;have ab:=Jh.o.step r.o af;have Jp:=qI a5;clear a5 af n2 an ay CL a1 Jz Ju Jn Jo Jl Jf Jg Jh;clear HJ;have HJ:=qI ab;have Gd:Hid (∀ g,(Value.slice M acc.length L).ownBlock=some g→W.heap.size≤g∧g<w0.heap.size):=qI (fun g hg=>ab.row.lt g hg);have Gv:Hid (W.heap.size≤w0.heap.size):=qI ab.cap.kept.size;have Gy:Hid (mcs.length=acc.length):=qI ab.all.1;have Jq:Hid (∀ x,x∈mcs.map yj→x.length=6):=qI (fun x l=>by
   obtain⟨q,hq,rfl⟩:=List.mem_map.1 l;obtain⟨j,a6,rfl⟩:=List.getElem_of_mem hq;have B:=(ab.all.2 j _ _ (List.getElem?_eq_getElem a6) (List.getElem?_eq_getElem (by rw [← ab.all.1];exact a6))).2.len;simp [yj,B])
  have CV:Hid (∀ w',zb [] w0 w'→Calls prog 74 #[.pointer (some ⟨p,0,none⟩),.int .i64 d] w' fun e w2=>kq d (vy (acc.map (fun q=>q.1)) (.inr (s,c))) p S w' e w2):=qI (fun w' k=>Jx.o (Jp.o.k0 k) Js.o hS ((ab.cap.tabs r.o HT.o).step (k.mono Wz)));have f3:=za (o:=4) (v:=.slice M acc.length L) ab.blk rfl;have f2:=za (o:=0) (v:=.pointer (some ⟨p,0,none⟩)) ab.cap.ptr rfl;have f1:=za (o:=0) (v:=.int .i64 d) ab.cap.dep rfl;clear ab Je Jm Jp Js;have Ji:Hid (vy (acc.map (fun q=>q.1)) (.inr (s,c))=vy (acc.map (fun q=>q.1)) (.inr (s,c))):=qI rfl;revert CV Ji;generalize a2:vy (acc.map (fun q=>q.1)) (.inr (s,c))=X;have Jc:=qI a2;clear a2;intro CV Ji;clear Ji;generalize a3:Yy (.inr (s,c))=key at *;have Jd:=qI a3;clear a3;go_wp2_with fail;refine YI (n:=14) (fun w':World=>w'.cell? ⟨bv,4,none⟩=some (.slice M acc.length L)∧w'.cell? ⟨b2,0,none⟩=some (.pointer (some ⟨p,0,none⟩))∧w'.cell? ⟨b3,0,none⟩=some (.int .i64 d)) 9 Wr Wr ?_;change yF _ _ _ _ _ _ _ _ _ w0.drew;have f:(fun w':World=>w'.cell? ⟨bv,4,none⟩=some (.slice M acc.length L)∧w'.cell? ⟨b2,0,none⟩=some (.pointer (some ⟨p,0,none⟩))∧w'.cell? ⟨b3,0,none⟩=some (.int .i64 d)) w0.drew:=⟨f3,f2,f1⟩;have Ge:Hid (zb [] w0 w0.drew):=qI Wd.drew;clear f1 f2 f3;revert f Ge;generalize w0.drew=WD;intro f Ge;refine ZN ?_;intro O R G hR;have E:kI R:=by subst hR;exact fun _ _ _ _ _ h=>h
  refine qU 0 ?_ G rfl rfl Wr E (fun w ae=>?_) f ?_;rotate_left;·exact zg
  try simp only [XI]
  refine qU 1 ?_ G rfl rfl Wr E (fun w ae=>?_) f ?_;rotate_left;·obtain⟨s0,s1,s2⟩:=ae;exact zg
  try simp only [XI]
  refine qU 3 ?_ G rfl rfl Wr E (fun w ae=>?_) f ?_;rotate_left;·obtain⟨s0,s1,s2⟩:=ae;exact zg
  try simp only [XI]
  refine qU 4 ?_ G rfl rfl Wr E (fun w ae=>?_) f ?_;rotate_left;·obtain⟨s0,s1,s2⟩:=ae;exact zg
  try simp only [XI]
  refine qU 2 ?_ G rfl rfl Wr E (fun w ae=>?_) f ?_;rotate_left;·exact zg
  try simp only [XI]
  refine qU 7 ?_ G rfl rfl Wr E (fun w ae=>?_) f ?_;rotate_left;·exact zg
  try simp only [XI]
  refine ql (i:=5) (j:=8) G rfl rfl Wr Wr Wr (fun K y=>?_) (fun K y=>?_)
  ·go_simp;refine Calls.mono (CV.o _ Ge.o) ?_;rintro e w3 ag;obtain⟨a8,rfl,av,J,am⟩:=ag.saidX;obtain⟨k3,m3,s3,p3,i3,d3,q3,j3,e3,rfl⟩:=av;have Jr:=qI J;have Jj:=qI ((Ge.o.mono (Y:=[p]) Wz).trans' J);have Gz:=qI am;have Gh:Hid (w0.heap.size≤WD.heap.size):=qI Ge.o.size;have ai:(fun w':World=>w'.cell? ⟨bv,4,none⟩=some (.slice M acc.length L)∧w'.cell? ⟨b2,0,none⟩=some (.pointer (some ⟨p,0,none⟩))∧w'.cell? ⟨b3,0,none⟩=some (.int .i64 d)) w3:=⟨J.cell f.1 (by have:=r.o.ltv;simp;omega),J.cell f.2.1 (by simpa using r.o.p2),J.cell f.2.2 (by simpa using r.o.p3)⟩;clear ag J am;refine y _ _ (.inr (.inr ai)) ?_;clear y K;try simp only [XI]
   clear f;have f:=ai;clear ai;refine qU 6 ?_ G rfl rfl Wr E (fun w ae=>?_) f ?_;rotate_left;·exact zg
   try simp only [XI]
   refine qV 8 G rfl Wr (fun K y=>?_);go_simp;have Gg:Hid (zb [] w3 (w3.alloc (.cells #[.string ⟨#[]⟩,.int .i64 0,.int .i64 0,.string ⟨#[]⟩,.slice none 0 0,.slice none 0 0] 41))):=qI ((zb.refl [] w3).alloc _);have Gb:=qI (yv w3 [.string ⟨#[]⟩,.int .i64 0,.int .i64 0,.string ⟨#[]⟩,.slice none 0 0,.slice none 0 0] 6 1 41 w3.heap.size rfl rfl Wo);have aj:(fun w':World=>w'.cell? ⟨bv,4,none⟩=some (.slice M acc.length L)∧w'.cell? ⟨b2,0,none⟩=some (.pointer (some ⟨p,0,none⟩))∧w'.cell? ⟨b3,0,none⟩=some (.int .i64 d)) (w3.alloc (.cells #[.string ⟨#[]⟩,.int .i64 0,.int .i64 0,.string ⟨#[]⟩,.slice none 0 0,.slice none 0 0] 41)):=⟨Gg.o.cell f.1 Wz,Gg.o.cell f.2.1 Wz,Gg.o.cell f.2.2 Wz⟩;refine y _ _ (.inr (.inr aj)) ?_;clear y K;try simp only [XI]
   clear f;have f:=aj;clear aj;revert f Gg Gb;generalize w3.alloc (.cells #[.string ⟨#[]⟩,.int .i64 0,.int .i64 0,.string ⟨#[]⟩,.slice none 0 0,.slice none 0 0] 41)=w5;intro Gg Gb f;have Q:=qI (Jj.o.then Gg.o);have Gi:=qI (Gz.o.k0 Gg.o);clear Gz;have U:=zk HJ.o.row Q.o (fun i a l=>by simp at l;have:=(Gd.o i a).1;have:=r.o.hp;omega);refine qV 9 G rfl Wr (fun K y=>?_);refine xa kS U Gb.o (by intro u hu;simp only [List.mem_cons,List.not_mem_nil,or_false] at hu;rcases hu with rfl | rfl | rfl | rfl | rfl | rfl <;> rfl) (by have:=HN.o;simp only [maxLen];omega) (XC HN.o) (XH Q.o.size Gv.o) (.tmp 27) (.tmp 34) rfl rfl rfl ?_;intro au d6 w6 z af al;obtain⟨m,rfl⟩:∃ m,au=some ⟨m,0,none⟩:=by
    rcases z.2 with ⟨h,h1⟩ | ⟨g,cap,a7,hv,_⟩;·omega
    ·simp only [Value.slice.injEq] at hv;exact⟨g,hv.1⟩
   have Gj:=qI z;have Gc:=qI af;have Gr:Hid ((Value.slice M acc.length L).ownBlock=some m∨m=w5.heap.size):=qI (by
    rcases al with h | h;·exact .inl (by rw [← h];rfl)
    ·exact .inr (by simpa [Value.ownBlock] using h))
   have Gf:Hid (W.heap.size≤m∧m<w6.heap.size):=qI (z.lt m rfl);have Gs:Hid (w6.heap[bv]? = some (.cells (kh 6 0 ⟨#[]⟩ (.slice none 0 0) (.slice M acc.length L)) 25 (0,0))):=qI (af.heap (Q.o.heap HJ.o.blk (by have:=r.o.ltv;simp;omega)) (fun l=>by have:=(Gd.o _ (XD l)).1;have:=r.o.hv;omega));have Gt:Hid (bv≠m):=qI (XH Gf.o.1 r.o.hv);clear U z af al f;refine y _ _ (.inl rfl) ?_;clear y K;try simp only [XI]
   have a9:(acc.length:Int)<(acc.length:Int)+1:=Ws;refine qW 10 ?_ G rfl rfl Wr E (fun w _=>?_) ?_;rotate_left;·exact zg
   try simp only [XI]
   refine qW 12 ?_ G rfl rfl Wr E (fun w _=>?_) ?_;rotate_left;·exact zg
   try simp only [XI]
   have ah:∀ x,x∈(mcs.map yj)++[vw]→x.length=6:=fun x l=>by
    rcases List.mem_append.1 l with l | l;·exact Jq.o x l
    ·simp at l;subst l;rfl
   have aa:w6.ownsRow W.heap.size 41 6 (.slice (some ⟨m,0,none⟩) (acc.length+1) d6) (acc.length+1) ((mcs.map yj)++[vw]).flatten:=by have B:=Gj.o;rw [yB] at B;rw [List.flatten_append];simp only [List.flatten_cons,List.flatten_nil,List.append_nil];exact B
   have Ja:=qI aa;have Gk:Hid ((((mcs.map yj)++[vw]).set acc.length [.string key,.int .i64 k3,.int .i64 m3,.string s3,.slice p3 i3 d3,.slice q3 j3 e3]).flatten=zZ (mcs++[(key,[.int .i64 k3,.int .i64 m3,.string s3,.slice p3 i3 d3,.slice q3 j3 e3])])):=qI (by
    rw [List.set_append_right _ _ (by have:=Gy.o;rw [List.length_map];omega),List.length_map,Gy.o,Nat.sub_self,yB,List.map_append];rfl)
   have Gl:=qI ah;have Gm:Hid (((mcs.map yj)++[vw]).length=acc.length+1):=qI (by rw [List.length_append,List.length_map,Gy.o];rfl);clear ah aa;refine ql (i:=11) (j:=13) G rfl rfl Wr Wr Wr (fun K y=>?_) (fun K y=>?_)
   ·obtain⟨F,ad,Z⟩:=xt (i:=acc.length) (g:=m) (c:=[.string key,.int .i64 k3,.int .i64 m3,.string s3,.slice p3 i3 d3,.slice q3 j3 e3]) Ja.o Gl.o rfl Gm.o (Nat.lt_succ_self _) rfl;rw [Gk.o] at F;have Gw:=qI F;have Gn:=qI Z;clear F Z;refine wp_store_mid 41 (.tmp 36) (.tmp 32) rfl m (acc.length*6) #[.string key,.int .i64 k3,.int .i64 m3,.string s3,.slice p3 i3 d3,.slice q3 j3 e3] rfl rfl ad Wr (by simp [Value.oneCell']) ?_;refine y _ _ (.inr (.inl Wr)) ?_;clear y K;try simp only [XI]
    have I:=Gn.o.heap Gs.o (by simpa using Gt.o);have Gp:=qI I;have c3:=za (o:=4) (v:=.slice M acc.length L) I rfl;have z3:=zh (o:=4) I;clear I;refine qV 13 G rfl Wr (fun K y=>?_);go_simp;refine y _ _ (.inr (.inl Wr)) ?_;clear y K;try simp only [XI]
    refine yQ G Wr ?_ _;subst hR;try clear E G O
    clear c3 z3 ad;have A:=zd (i:=4) (v:=.slice (some ⟨m,0,none⟩) (acc.length+1) d6) Gp.o rfl;have t:=((Gn.o.mono (Y:=[bv,m]) Wz).setCell (p:=⟨bv,4,none⟩) (.inl Wz) (.slice (some ⟨m,0,none⟩) (acc.length+1) d6));have H:=zk Gw.o (zW _ bv 4 (.slice (some ⟨m,0,none⟩) (acc.length+1) d6)) (fun i a l=>by simp [Value.ownBlock] at a l;exact Gt.o (by rw [← l,← a]));revert A t H;generalize World.setCell _ ⟨bv,4,none⟩ (.slice (some ⟨m,0,none⟩) (acc.length+1) d6)=wF;intro A t H;have Gq:Qx W bv b2 b3 b6 bm p d wF:=(HJ.o.cap.step r.o ((Q.o.mono (Y:=p::bv::m::(Value.slice M acc.length L).ownBlock.toList) Wz).trans' ((Gc.o.mono (fun i a=>by simp at a ⊢;exact .inr (.inr (.inr a)))).trans' (t.mono (fun i a=>by simp at a ⊢;rcases a with h | h;exact .inr (.inl h);exact .inr (.inr (.inl h)))))) (fun i a=>by
     have B:=Gr.o;have aq:=Gv.o;have ap:=Q.o.size;rcases List.mem_cons.1 a with h | a
     ·exact .inl h
     rcases List.mem_cons.1 a with h | a;·exact .inr (.inl h)
     rcases List.mem_cons.1 a with h | a
     ·subst h;rcases B with B | B
      ·exact .inr (.inr (.inr (Gd.o _ B).1))
      ·exact .inr (.inr (.inr Ws))
     ·exact .inr (.inr (.inr (Gd.o _ (XD a)).1))))
    have C:∀ b,b<W.heap.size→b≠bv→b ∉ [bv,m]:=fun b h1 h2 l=>by
     have:=Gf.o.1;simp at l;rcases l with l | l
     ·exact h2 l
     ·omega
    have D:∀ b,b<W.heap.size→b ∉ (Value.slice M acc.length L).ownBlock.toList:=fun b h1 l=>by have:=(Gd.o _ (XD l)).1;omega
    have Gx:Hid (∀ x,PS w5 p S 4097 x→PS wF p S 4097 x):=qI (fun x h=>(h.kept Gc.o (D _ r.o.hp)).kept t (C _ r.o.hp (XC r.o.ltv)));have P:=((HJ.o.saw.kept Q.o (by have:=r.o.ltm;simp;omega)).kept Gc.o (D _ r.o.hm)).kept t (C _ r.o.hm r.o.vm.symm);go_wp2_with fail;go_end0;refine⟨rfl,kn Jc.o Gi.o Gx.o ⟨Gq,_,_,_,A⟩ (fun v hv=>?_)⟩;rw [Jd.o];have B:=HJ.o.snoc (key:=key) r.o Gq P A Q.o Gc.o t rfl Gr.o H hv Gh.o;rw [List.map_append];exact⟨_,_,B⟩
   ·have c3:=za (o:=4) (v:=.slice M acc.length L) Gs.o rfl;have z3:=zh (o:=4) Gs.o;go_simp;refine y _ _ (.inr (.inl Wr)) ?_;clear y K;try simp only [XI]
    clear c3 z3;have I:=zd (i:=4) (v:=.slice (some ⟨m,0,none⟩) (acc.length+1) d6) Gs.o rfl;have Gp:=qI I;have Gu:=qI (zW w6 bv 4 (.slice (some ⟨m,0,none⟩) (acc.length+1) d6));clear I;revert Gp Gu;generalize w6.setCell ⟨bv,4,none⟩ (.slice (some ⟨m,0,none⟩) (acc.length+1) d6)=w7;intro Gp Gu;have N:=zk Ja.o Gu.o (fun i a l=>by simp [Value.ownBlock] at a l;exact Gt.o (by rw [← l,← a]));obtain⟨F,ad,Z⟩:=xt (i:=acc.length) (g:=m) (c:=[.string key,.int .i64 k3,.int .i64 m3,.string s3,.slice p3 i3 d3,.slice q3 j3 e3]) N Gl.o rfl Gm.o (Nat.lt_succ_self _) rfl;rw [Gk.o] at F;have Gw:=qI F;have Gn:=qI Z;clear F Z N;refine qV 11 G rfl Wr (fun K y=>?_);refine wp_store_mid 41 (.tmp 36) (.tmp 32) rfl m (acc.length*6) #[.string key,.int .i64 k3,.int .i64 m3,.string s3,.slice p3 i3 d3,.slice q3 j3 e3] rfl rfl ad Wr (by simp [Value.oneCell']) ?_;refine y _ _ (.inr (.inl Wr)) ?_;clear y K;try simp only [XI]
    refine yQ G Wr ?_ _;subst hR;try clear E G O
    clear ad;have A:=Gn.o.heap Gp.o (by simpa using Gt.o);have t:=((Gu.o.mono (Y:=[bv,m]) Wz).trans' (Gn.o.mono (Y:=[bv,m]) Wz));have H:=Gw.o;revert A t H;generalize World.setCells _ m (acc.length*6) (#[.string key,.int .i64 k3,.int .i64 m3,.string s3,.slice p3 i3 d3,.slice q3 j3 e3]:Array Value).toList=wF;intro A t H;have Gq:Qx W bv b2 b3 b6 bm p d wF:=(HJ.o.cap.step r.o ((Q.o.mono (Y:=p::bv::m::(Value.slice M acc.length L).ownBlock.toList) Wz).trans' ((Gc.o.mono (fun i a=>by simp at a ⊢;exact .inr (.inr (.inr a)))).trans' (t.mono (fun i a=>by simp at a ⊢;rcases a with h | h;exact .inr (.inl h);exact .inr (.inr (.inl h)))))) (fun i a=>by
     have B:=Gr.o;have aq:=Gv.o;have ap:=Q.o.size;rcases List.mem_cons.1 a with h | a
     ·exact .inl h
     rcases List.mem_cons.1 a with h | a;·exact .inr (.inl h)
     rcases List.mem_cons.1 a with h | a
     ·subst h;rcases B with B | B
      ·exact .inr (.inr (.inr (Gd.o _ B).1))
      ·exact .inr (.inr (.inr Ws))
     ·exact .inr (.inr (.inr (Gd.o _ (XD a)).1))))
    have C:∀ b,b<W.heap.size→b≠bv→b ∉ [bv,m]:=fun b h1 h2 l=>by
     have:=Gf.o.1;simp at l;rcases l with l | l
     ·exact h2 l
     ·omega
    have D:∀ b,b<W.heap.size→b ∉ (Value.slice M acc.length L).ownBlock.toList:=fun b h1 l=>by have:=(Gd.o _ (XD l)).1;omega
    have Gx:Hid (∀ x,PS w5 p S 4097 x→PS wF p S 4097 x):=qI (fun x h=>(h.kept Gc.o (D _ r.o.hp)).kept t (C _ r.o.hp (XC r.o.ltv)));have P:=((HJ.o.saw.kept Q.o (by have:=r.o.ltm;simp;omega)).kept Gc.o (D _ r.o.hm)).kept t (C _ r.o.hm r.o.vm.symm);go_wp2_with fail;go_end0;refine⟨rfl,kn Jc.o Gi.o Gx.o ⟨Gq,_,_,_,A⟩ (fun v hv=>?_)⟩;rw [Jd.o];have B:=HJ.o.snoc (key:=key) r.o Gq P A Q.o Gc.o t rfl Gr.o H hv Gh.o;rw [List.map_append];exact⟨_,_,B⟩
  ·go_simp;have Gg:Hid (zb [] WD (WD.alloc (.cells #[.string ⟨#[]⟩,.int .i64 0,.int .i64 0,.string ⟨#[]⟩,.slice none 0 0,.slice none 0 0] 41))):=qI ((zb.refl [] WD).alloc _);have Gb:=qI (yv WD [.string ⟨#[]⟩,.int .i64 0,.int .i64 0,.string ⟨#[]⟩,.slice none 0 0,.slice none 0 0] 6 1 41 WD.heap.size rfl rfl Wo);have aj:(fun w':World=>w'.cell? ⟨bv,4,none⟩=some (.slice M acc.length L)∧w'.cell? ⟨b2,0,none⟩=some (.pointer (some ⟨p,0,none⟩))∧w'.cell? ⟨b3,0,none⟩=some (.int .i64 d)) (WD.alloc (.cells #[.string ⟨#[]⟩,.int .i64 0,.int .i64 0,.string ⟨#[]⟩,.slice none 0 0,.slice none 0 0] 41)):=⟨Gg.o.cell f.1 Wz,Gg.o.cell f.2.1 Wz,Gg.o.cell f.2.2 Wz⟩;refine y _ _ (.inr (.inr aj)) ?_;clear y K;try simp only [XI]
   clear f;have f:=aj;clear aj;revert f Gg Gb;generalize WD.alloc (.cells #[.string ⟨#[]⟩,.int .i64 0,.int .i64 0,.string ⟨#[]⟩,.slice none 0 0,.slice none 0 0] 41)=w4;intro Gg Gb f;have Jk:=qI (Ge.o.then Gg.o);refine qV 5 G rfl Wr (fun K y=>?_);go_simp;refine Calls.mono (CV.o _ Jk.o) ?_;rintro e w5 ag;obtain⟨a8,rfl,av,J,am⟩:=ag.saidX;obtain⟨k3,m3,s3,p3,i3,d3,q3,j3,e3,rfl⟩:=av;have Jr:=qI J;have Jj:=qI ((Jk.o.mono (Y:=[p]) Wz).trans' J);have Gz:=qI am;have Gh:Hid (w0.heap.size≤w4.heap.size):=qI Jk.o.size;have ai:(fun w':World=>w'.cell? ⟨bv,4,none⟩=some (.slice M acc.length L)∧w'.cell? ⟨b2,0,none⟩=some (.pointer (some ⟨p,0,none⟩))∧w'.cell? ⟨b3,0,none⟩=some (.int .i64 d)) w5:=⟨J.cell f.1 (by have:=r.o.ltv;simp;omega),J.cell f.2.1 (by simpa using r.o.p2),J.cell f.2.2 (by simpa using r.o.p3)⟩;clear ag J am;refine y _ _ (.inr (.inr ai)) ?_;clear y K;try simp only [XI]
   clear f;have f:=ai;clear ai;refine qU 6 ?_ G rfl rfl Wr E (fun w ae=>?_) f ?_;rotate_left;·exact zg
   try simp only [XI]
   have Q:=qI Jj.o;have Gi:=qI Gz.o;have Jb:=qI Gb.o;clear Gb;have Gb:=qI (Jb.o.kept Jr.o (fun i a l=>by simp [yx] at a l;have:=Ge.o.size;have:=Gv.o;have:=r.o.hp;omega));clear Gz;have U:=zk HJ.o.row Q.o (fun i a l=>by simp at l;have:=(Gd.o i a).1;have:=r.o.hp;omega);refine qV 9 G rfl Wr (fun K y=>?_);refine xa kS U Gb.o (by intro u hu;simp only [List.mem_cons,List.not_mem_nil,or_false] at hu;rcases hu with rfl | rfl | rfl | rfl | rfl | rfl <;> rfl) (by have:=HN.o;simp only [maxLen];omega) (XC HN.o) (XH Q.o.size Gv.o) (.tmp 27) (.tmp 34) rfl rfl rfl ?_;intro au d6 w6 z af al;obtain⟨m,rfl⟩:∃ m,au=some ⟨m,0,none⟩:=by
    rcases z.2 with ⟨h,h1⟩ | ⟨g,cap,a7,hv,_⟩;·omega
    ·simp only [Value.slice.injEq] at hv;exact⟨g,hv.1⟩
   have Gj:=qI z;have Gc:=qI af;have Gr:Hid ((Value.slice M acc.length L).ownBlock=some m∨m=w5.heap.size):=qI (by
    rcases al with h | h;·exact .inl (by rw [← h];rfl)
    ·exact .inr (by simpa [Value.ownBlock] using h))
   have Gf:Hid (W.heap.size≤m∧m<w6.heap.size):=qI (z.lt m rfl);have Gs:Hid (w6.heap[bv]? = some (.cells (kh 6 0 ⟨#[]⟩ (.slice none 0 0) (.slice M acc.length L)) 25 (0,0))):=qI (af.heap (Q.o.heap HJ.o.blk (by have:=r.o.ltv;simp;omega)) (fun l=>by have:=(Gd.o _ (XD l)).1;have:=r.o.hv;omega));have Gt:Hid (bv≠m):=qI (XH Gf.o.1 r.o.hv);clear U z af al f;refine y _ _ (.inl rfl) ?_;clear y K;try simp only [XI]
   have a9:(acc.length:Int)<(acc.length:Int)+1:=Ws;refine qW 10 ?_ G rfl rfl Wr E (fun w _=>?_) ?_;rotate_left;·exact zg
   try simp only [XI]
   refine qW 12 ?_ G rfl rfl Wr E (fun w _=>?_) ?_;rotate_left;·exact zg
   try simp only [XI]
   have ah:∀ x,x∈(mcs.map yj)++[vw]→x.length=6:=fun x l=>by
    rcases List.mem_append.1 l with l | l;·exact Jq.o x l
    ·simp at l;subst l;rfl
   have aa:w6.ownsRow W.heap.size 41 6 (.slice (some ⟨m,0,none⟩) (acc.length+1) d6) (acc.length+1) ((mcs.map yj)++[vw]).flatten:=by have B:=Gj.o;rw [yB] at B;rw [List.flatten_append];simp only [List.flatten_cons,List.flatten_nil,List.append_nil];exact B
   have Ja:=qI aa;have Gk:Hid ((((mcs.map yj)++[vw]).set acc.length [.string key,.int .i64 k3,.int .i64 m3,.string s3,.slice p3 i3 d3,.slice q3 j3 e3]).flatten=zZ (mcs++[(key,[.int .i64 k3,.int .i64 m3,.string s3,.slice p3 i3 d3,.slice q3 j3 e3])])):=qI (by
    rw [List.set_append_right _ _ (by have:=Gy.o;rw [List.length_map];omega),List.length_map,Gy.o,Nat.sub_self,yB,List.map_append];rfl)
   have Gl:=qI ah;have Gm:Hid (((mcs.map yj)++[vw]).length=acc.length+1):=qI (by rw [List.length_append,List.length_map,Gy.o];rfl);clear ah aa;refine ql (i:=11) (j:=13) G rfl rfl Wr Wr Wr (fun K y=>?_) (fun K y=>?_)
   ·obtain⟨F,ad,Z⟩:=xt (i:=acc.length) (g:=m) (c:=[.string key,.int .i64 k3,.int .i64 m3,.string s3,.slice p3 i3 d3,.slice q3 j3 e3]) Ja.o Gl.o rfl Gm.o (Nat.lt_succ_self _) rfl;rw [Gk.o] at F;have Gw:=qI F;have Gn:=qI Z;clear F Z;refine wp_store_mid 41 (.tmp 36) (.tmp 32) rfl m (acc.length*6) #[.string key,.int .i64 k3,.int .i64 m3,.string s3,.slice p3 i3 d3,.slice q3 j3 e3] rfl rfl ad Wr (by simp [Value.oneCell']) ?_;refine y _ _ (.inr (.inl Wr)) ?_;clear y K;try simp only [XI]
    have I:=Gn.o.heap Gs.o (by simpa using Gt.o);have Gp:=qI I;have c3:=za (o:=4) (v:=.slice M acc.length L) I rfl;have z3:=zh (o:=4) I;clear I;refine qV 13 G rfl Wr (fun K y=>?_);go_simp;refine y _ _ (.inr (.inl Wr)) ?_;clear y K;try simp only [XI]
    refine yQ G Wr ?_ _;subst hR;try clear E G O
    clear c3 z3 ad;have A:=zd (i:=4) (v:=.slice (some ⟨m,0,none⟩) (acc.length+1) d6) Gp.o rfl;have t:=((Gn.o.mono (Y:=[bv,m]) Wz).setCell (p:=⟨bv,4,none⟩) (.inl Wz) (.slice (some ⟨m,0,none⟩) (acc.length+1) d6));have H:=zk Gw.o (zW _ bv 4 (.slice (some ⟨m,0,none⟩) (acc.length+1) d6)) (fun i a l=>by simp [Value.ownBlock] at a l;exact Gt.o (by rw [← l,← a]));revert A t H;generalize World.setCell _ ⟨bv,4,none⟩ (.slice (some ⟨m,0,none⟩) (acc.length+1) d6)=wF;intro A t H;have Gq:Qx W bv b2 b3 b6 bm p d wF:=(HJ.o.cap.step r.o ((Q.o.mono (Y:=p::bv::m::(Value.slice M acc.length L).ownBlock.toList) Wz).trans' ((Gc.o.mono (fun i a=>by simp at a ⊢;exact .inr (.inr (.inr a)))).trans' (t.mono (fun i a=>by simp at a ⊢;rcases a with h | h;exact .inr (.inl h);exact .inr (.inr (.inl h)))))) (fun i a=>by
     have B:=Gr.o;have aq:=Gv.o;have ap:=Q.o.size;rcases List.mem_cons.1 a with h | a
     ·exact .inl h
     rcases List.mem_cons.1 a with h | a;·exact .inr (.inl h)
     rcases List.mem_cons.1 a with h | a
     ·subst h;rcases B with B | B
      ·exact .inr (.inr (.inr (Gd.o _ B).1))
      ·exact .inr (.inr (.inr Ws))
     ·exact .inr (.inr (.inr (Gd.o _ (XD a)).1))))
    have C:∀ b,b<W.heap.size→b≠bv→b ∉ [bv,m]:=fun b h1 h2 l=>by
     have:=Gf.o.1;simp at l;rcases l with l | l
     ·exact h2 l
     ·omega
    have D:∀ b,b<W.heap.size→b ∉ (Value.slice M acc.length L).ownBlock.toList:=fun b h1 l=>by have:=(Gd.o _ (XD l)).1;omega
    have Gx:Hid (∀ x,PS w5 p S 4097 x→PS wF p S 4097 x):=qI (fun x h=>(h.kept Gc.o (D _ r.o.hp)).kept t (C _ r.o.hp (XC r.o.ltv)));have P:=((HJ.o.saw.kept Q.o (by have:=r.o.ltm;simp;omega)).kept Gc.o (D _ r.o.hm)).kept t (C _ r.o.hm r.o.vm.symm);go_wp2_with fail;go_end0;refine⟨rfl,kn Jc.o Gi.o Gx.o ⟨Gq,_,_,_,A⟩ (fun v hv=>?_)⟩;rw [Jd.o];have B:=HJ.o.snoc (key:=key) r.o Gq P A Q.o Gc.o t rfl Gr.o H hv Gh.o;rw [List.map_append];exact⟨_,_,B⟩
   ·have c3:=za (o:=4) (v:=.slice M acc.length L) Gs.o rfl;have z3:=zh (o:=4) Gs.o;go_simp;refine y _ _ (.inr (.inl Wr)) ?_;clear y K;try simp only [XI]
    clear c3 z3;have I:=zd (i:=4) (v:=.slice (some ⟨m,0,none⟩) (acc.length+1) d6) Gs.o rfl;have Gp:=qI I;have Gu:=qI (zW w6 bv 4 (.slice (some ⟨m,0,none⟩) (acc.length+1) d6));clear I;revert Gp Gu;generalize w6.setCell ⟨bv,4,none⟩ (.slice (some ⟨m,0,none⟩) (acc.length+1) d6)=w7;intro Gp Gu;have N:=zk Ja.o Gu.o (fun i a l=>by simp [Value.ownBlock] at a l;exact Gt.o (by rw [← l,← a]));obtain⟨F,ad,Z⟩:=xt (i:=acc.length) (g:=m) (c:=[.string key,.int .i64 k3,.int .i64 m3,.string s3,.slice p3 i3 d3,.slice q3 j3 e3]) N Gl.o rfl Gm.o (Nat.lt_succ_self _) rfl;rw [Gk.o] at F;have Gw:=qI F;have Gn:=qI Z;clear F Z N;refine qV 11 G rfl Wr (fun K y=>?_);refine wp_store_mid 41 (.tmp 36) (.tmp 32) rfl m (acc.length*6) #[.string key,.int .i64 k3,.int .i64 m3,.string s3,.slice p3 i3 d3,.slice q3 j3 e3] rfl rfl ad Wr (by simp [Value.oneCell']) ?_;refine y _ _ (.inr (.inl Wr)) ?_;clear y K;try simp only [XI]
    refine yQ G Wr ?_ _;subst hR;try clear E G O
    clear ad;have A:=Gn.o.heap Gp.o (by simpa using Gt.o);have t:=((Gu.o.mono (Y:=[bv,m]) Wz).trans' (Gn.o.mono (Y:=[bv,m]) Wz));have H:=Gw.o;revert A t H;generalize World.setCells _ m (acc.length*6) (#[.string key,.int .i64 k3,.int .i64 m3,.string s3,.slice p3 i3 d3,.slice q3 j3 e3]:Array Value).toList=wF;intro A t H;have Gq:Qx W bv b2 b3 b6 bm p d wF:=(HJ.o.cap.step r.o ((Q.o.mono (Y:=p::bv::m::(Value.slice M acc.length L).ownBlock.toList) Wz).trans' ((Gc.o.mono (fun i a=>by simp at a ⊢;exact .inr (.inr (.inr a)))).trans' (t.mono (fun i a=>by simp at a ⊢;rcases a with h | h;exact .inr (.inl h);exact .inr (.inr (.inl h)))))) (fun i a=>by
     have B:=Gr.o;have aq:=Gv.o;have ap:=Q.o.size;rcases List.mem_cons.1 a with h | a
     ·exact .inl h
     rcases List.mem_cons.1 a with h | a;·exact .inr (.inl h)
     rcases List.mem_cons.1 a with h | a
     ·subst h;rcases B with B | B
      ·exact .inr (.inr (.inr (Gd.o _ B).1))
      ·exact .inr (.inr (.inr Ws))
     ·exact .inr (.inr (.inr (Gd.o _ (XD a)).1))))
    have C:∀ b,b<W.heap.size→b≠bv→b ∉ [bv,m]:=fun b h1 h2 l=>by
     have:=Gf.o.1;simp at l;rcases l with l | l
     ·exact h2 l
     ·omega
    have D:∀ b,b<W.heap.size→b ∉ (Value.slice M acc.length L).ownBlock.toList:=fun b h1 l=>by have:=(Gd.o _ (XD l)).1;omega
    have Gx:Hid (∀ x,PS w5 p S 4097 x→PS wF p S 4097 x):=qI (fun x h=>(h.kept Gc.o (D _ r.o.hp)).kept t (C _ r.o.hp (XC r.o.ltv)));have P:=((HJ.o.saw.kept Q.o (by have:=r.o.ltm;simp;omega)).kept Gc.o (D _ r.o.hm)).kept t (C _ r.o.hm r.o.vm.symm);go_wp2_with fail;go_end0;refine⟨rfl,kn Jc.o Gi.o Gx.o ⟨Gq,_,_,_,A⟩ (fun v hv=>?_)⟩;rw [Jd.o];have B:=HJ.o.snoc (key:=key) r.o Gq P A Q.o Gc.o t rfl Gr.o H hv Gh.o;rw [List.map_append];exact⟨_,_,B⟩
 ·rw [hb] at ao Je;have Jm:Hid (vy (acc.map (fun q=>q.1)) (.inr (s,c))=Z3 [58] (kL (zbk 53 (Q6 X1)))):=qI Je.o;clear hb;go_wp2_with fail;refine (yJ Ju.o i1 53 Mb.o Wo Wo).mono ?_;rintro e w3 ⟨rfl,aG,J⟩;have Jv:=qI (Jf.o.step r.o J);have Ma:=qI aG;clear ao g2 m;have m:=za (o:=0) (v:=.map (some bm)) Jv.o.cap.box rfl;clear aG J;obtain⟨w4,a0,ax,ar⟩:=Jv.o.saw.put (Yy (.inr (s,c))) (XC Jt.o) (XC Jy.o);have Jg:=qI (Jv.o.put r.o ar ax);have Jn:=qI (Ma.o.kept ar (by have:=r.o.ltm;simp;omega));have m2:=za (o:=0) (v:=.pointer (some ⟨p,0,none⟩)) Jg.o.cap.ptr rfl;clear ax ar;have ay:=qI (qv Jn.o hS);go_wp2_with fail;refine ay.o.mono ?_;rintro e w5 ⟨rfl,a4,aw⟩;have Jh:=qI (Jg.o.step r.o aw);have Jo:=qI a4;have n2:=za (o:=0) (v:=.pointer (some ⟨p,0,none⟩)) Jh.o.cap.ptr rfl;clear a4 aw m2 a0;have an:=qI (vN Jo.o hS ⟨#[58]⟩);rw [show (⟨#[58]⟩:ByteArray).data.toList=[58] from rfl,← Jm.o] at an;go_wp2_with fail;refine an.o.mono ?_;rintro e w0 ⟨rfl,a5,af⟩;have ab:=Jh.o.step r.o af;have Jp:=qI a5;clear Jv Ma;clear a5 af n2 an ay CL a1 Jz Ju Jn Jo Jl Jf Jg Jh;clear HJ;have HJ:=qI ab;have Gd:Hid (∀ g,(Value.slice M acc.length L).ownBlock=some g→W.heap.size≤g∧g<w0.heap.size):=qI (fun g hg=>ab.row.lt g hg);have Gv:Hid (W.heap.size≤w0.heap.size):=qI ab.cap.kept.size;have Gy:Hid (mcs.length=acc.length):=qI ab.all.1;have Jq:Hid (∀ x,x∈mcs.map yj→x.length=6):=qI (fun x l=>by
   obtain⟨q,hq,rfl⟩:=List.mem_map.1 l;obtain⟨j,a6,rfl⟩:=List.getElem_of_mem hq;have B:=(ab.all.2 j _ _ (List.getElem?_eq_getElem a6) (List.getElem?_eq_getElem (by rw [← ab.all.1];exact a6))).2.len;simp [yj,B])
  have CV:Hid (∀ w',zb [] w0 w'→Calls prog 74 #[.pointer (some ⟨p,0,none⟩),.int .i64 d] w' fun e w2=>kq d (vy (acc.map (fun q=>q.1)) (.inr (s,c))) p S w' e w2):=qI (fun w' k=>Jx.o (Jp.o.k0 k) Js.o hS ((ab.cap.tabs r.o HT.o).step (k.mono Wz)));have f3:=za (o:=4) (v:=.slice M acc.length L) ab.blk rfl;have f2:=za (o:=0) (v:=.pointer (some ⟨p,0,none⟩)) ab.cap.ptr rfl;have f1:=za (o:=0) (v:=.int .i64 d) ab.cap.dep rfl;clear ab Je Jm Jp Js;have Ji:Hid (vy (acc.map (fun q=>q.1)) (.inr (s,c))=vy (acc.map (fun q=>q.1)) (.inr (s,c))):=qI rfl;revert CV Ji;generalize a2:vy (acc.map (fun q=>q.1)) (.inr (s,c))=X;have Jc:=qI a2;clear a2;intro CV Ji;clear Ji;generalize a3:Yy (.inr (s,c))=key at *;have Jd:=qI a3;clear a3;go_wp2_with fail;refine YI (n:=14) (fun w':World=>w'.cell? ⟨bv,4,none⟩=some (.slice M acc.length L)∧w'.cell? ⟨b2,0,none⟩=some (.pointer (some ⟨p,0,none⟩))∧w'.cell? ⟨b3,0,none⟩=some (.int .i64 d)) 9 Wr Wr ?_;change yF _ _ _ _ _ _ _ _ _ w0.drew;have f:(fun w':World=>w'.cell? ⟨bv,4,none⟩=some (.slice M acc.length L)∧w'.cell? ⟨b2,0,none⟩=some (.pointer (some ⟨p,0,none⟩))∧w'.cell? ⟨b3,0,none⟩=some (.int .i64 d)) w0.drew:=⟨f3,f2,f1⟩;have Ge:Hid (zb [] w0 w0.drew):=qI Wd.drew;clear f1 f2 f3;revert f Ge;generalize w0.drew=WD;intro f Ge;refine ZN ?_;intro O R G hR;have E:kI R:=by subst hR;exact fun _ _ _ _ _ h=>h
  refine qU 0 ?_ G rfl rfl Wr E (fun w ae=>?_) f ?_;rotate_left;·exact zg
  try simp only [XI]
  refine qU 1 ?_ G rfl rfl Wr E (fun w ae=>?_) f ?_;rotate_left;·obtain⟨s0,s1,s2⟩:=ae;exact zg
  try simp only [XI]
  refine qU 3 ?_ G rfl rfl Wr E (fun w ae=>?_) f ?_;rotate_left;·obtain⟨s0,s1,s2⟩:=ae;exact zg
  try simp only [XI]
  refine qU 4 ?_ G rfl rfl Wr E (fun w ae=>?_) f ?_;rotate_left;·obtain⟨s0,s1,s2⟩:=ae;exact zg
  try simp only [XI]
  refine qU 2 ?_ G rfl rfl Wr E (fun w ae=>?_) f ?_;rotate_left;·exact zg
  try simp only [XI]
  refine qU 7 ?_ G rfl rfl Wr E (fun w ae=>?_) f ?_;rotate_left;·exact zg
  try simp only [XI]
  refine ql (i:=5) (j:=8) G rfl rfl Wr Wr Wr (fun K y=>?_) (fun K y=>?_)
  ·go_simp;refine Calls.mono (CV.o _ Ge.o) ?_;rintro e w3 ag;obtain⟨a8,rfl,av,J,am⟩:=ag.saidX;obtain⟨k3,m3,s3,p3,i3,d3,q3,j3,e3,rfl⟩:=av;have Jr:=qI J;have Jj:=qI ((Ge.o.mono (Y:=[p]) Wz).trans' J);have Gz:=qI am;have Gh:Hid (w0.heap.size≤WD.heap.size):=qI Ge.o.size;have ai:(fun w':World=>w'.cell? ⟨bv,4,none⟩=some (.slice M acc.length L)∧w'.cell? ⟨b2,0,none⟩=some (.pointer (some ⟨p,0,none⟩))∧w'.cell? ⟨b3,0,none⟩=some (.int .i64 d)) w3:=⟨J.cell f.1 (by have:=r.o.ltv;simp;omega),J.cell f.2.1 (by simpa using r.o.p2),J.cell f.2.2 (by simpa using r.o.p3)⟩;clear ag J am;refine y _ _ (.inr (.inr ai)) ?_;clear y K;try simp only [XI]
   clear f;have f:=ai;clear ai;refine qU 6 ?_ G rfl rfl Wr E (fun w ae=>?_) f ?_;rotate_left;·exact zg
   try simp only [XI]
   refine qV 8 G rfl Wr (fun K y=>?_);go_simp;have Gg:Hid (zb [] w3 (w3.alloc (.cells #[.string ⟨#[]⟩,.int .i64 0,.int .i64 0,.string ⟨#[]⟩,.slice none 0 0,.slice none 0 0] 41))):=qI ((zb.refl [] w3).alloc _);have Gb:=qI (yv w3 [.string ⟨#[]⟩,.int .i64 0,.int .i64 0,.string ⟨#[]⟩,.slice none 0 0,.slice none 0 0] 6 1 41 w3.heap.size rfl rfl Wo);have aj:(fun w':World=>w'.cell? ⟨bv,4,none⟩=some (.slice M acc.length L)∧w'.cell? ⟨b2,0,none⟩=some (.pointer (some ⟨p,0,none⟩))∧w'.cell? ⟨b3,0,none⟩=some (.int .i64 d)) (w3.alloc (.cells #[.string ⟨#[]⟩,.int .i64 0,.int .i64 0,.string ⟨#[]⟩,.slice none 0 0,.slice none 0 0] 41)):=⟨Gg.o.cell f.1 Wz,Gg.o.cell f.2.1 Wz,Gg.o.cell f.2.2 Wz⟩;refine y _ _ (.inr (.inr aj)) ?_;clear y K;try simp only [XI]
   clear f;have f:=aj;clear aj;revert f Gg Gb;generalize w3.alloc (.cells #[.string ⟨#[]⟩,.int .i64 0,.int .i64 0,.string ⟨#[]⟩,.slice none 0 0,.slice none 0 0] 41)=w5;intro Gg Gb f;have Q:=qI (Jj.o.then Gg.o);have Gi:=qI (Gz.o.k0 Gg.o);clear Gz;have U:=zk HJ.o.row Q.o (fun i a l=>by simp at l;have:=(Gd.o i a).1;have:=r.o.hp;omega);refine qV 9 G rfl Wr (fun K y=>?_);refine xa kS U Gb.o (by intro u hu;simp only [List.mem_cons,List.not_mem_nil,or_false] at hu;rcases hu with rfl | rfl | rfl | rfl | rfl | rfl <;> rfl) (by have:=HN.o;simp only [maxLen];omega) (XC HN.o) (XH Q.o.size Gv.o) (.tmp 27) (.tmp 34) rfl rfl rfl ?_;intro au d6 w6 z af al;obtain⟨m,rfl⟩:∃ m,au=some ⟨m,0,none⟩:=by
    rcases z.2 with ⟨h,h1⟩ | ⟨g,cap,a7,hv,_⟩;·omega
    ·simp only [Value.slice.injEq] at hv;exact⟨g,hv.1⟩
   have Gj:=qI z;have Gc:=qI af;have Gr:Hid ((Value.slice M acc.length L).ownBlock=some m∨m=w5.heap.size):=qI (by
    rcases al with h | h;·exact .inl (by rw [← h];rfl)
    ·exact .inr (by simpa [Value.ownBlock] using h))
   have Gf:Hid (W.heap.size≤m∧m<w6.heap.size):=qI (z.lt m rfl);have Gs:Hid (w6.heap[bv]? = some (.cells (kh 6 0 ⟨#[]⟩ (.slice none 0 0) (.slice M acc.length L)) 25 (0,0))):=qI (af.heap (Q.o.heap HJ.o.blk (by have:=r.o.ltv;simp;omega)) (fun l=>by have:=(Gd.o _ (XD l)).1;have:=r.o.hv;omega));have Gt:Hid (bv≠m):=qI (XH Gf.o.1 r.o.hv);clear U z af al f;refine y _ _ (.inl rfl) ?_;clear y K;try simp only [XI]
   have a9:(acc.length:Int)<(acc.length:Int)+1:=Ws;refine qW 10 ?_ G rfl rfl Wr E (fun w _=>?_) ?_;rotate_left;·exact zg
   try simp only [XI]
   refine qW 12 ?_ G rfl rfl Wr E (fun w _=>?_) ?_;rotate_left;·exact zg
   try simp only [XI]
   have ah:∀ x,x∈(mcs.map yj)++[vw]→x.length=6:=fun x l=>by
    rcases List.mem_append.1 l with l | l;·exact Jq.o x l
    ·simp at l;subst l;rfl
   have aa:w6.ownsRow W.heap.size 41 6 (.slice (some ⟨m,0,none⟩) (acc.length+1) d6) (acc.length+1) ((mcs.map yj)++[vw]).flatten:=by have B:=Gj.o;rw [yB] at B;rw [List.flatten_append];simp only [List.flatten_cons,List.flatten_nil,List.append_nil];exact B
   have Ja:=qI aa;have Gk:Hid ((((mcs.map yj)++[vw]).set acc.length [.string key,.int .i64 k3,.int .i64 m3,.string s3,.slice p3 i3 d3,.slice q3 j3 e3]).flatten=zZ (mcs++[(key,[.int .i64 k3,.int .i64 m3,.string s3,.slice p3 i3 d3,.slice q3 j3 e3])])):=qI (by
    rw [List.set_append_right _ _ (by have:=Gy.o;rw [List.length_map];omega),List.length_map,Gy.o,Nat.sub_self,yB,List.map_append];rfl)
   have Gl:=qI ah;have Gm:Hid (((mcs.map yj)++[vw]).length=acc.length+1):=qI (by rw [List.length_append,List.length_map,Gy.o];rfl);clear ah aa;refine ql (i:=11) (j:=13) G rfl rfl Wr Wr Wr (fun K y=>?_) (fun K y=>?_)
   ·obtain⟨F,ad,Z⟩:=xt (i:=acc.length) (g:=m) (c:=[.string key,.int .i64 k3,.int .i64 m3,.string s3,.slice p3 i3 d3,.slice q3 j3 e3]) Ja.o Gl.o rfl Gm.o (Nat.lt_succ_self _) rfl;rw [Gk.o] at F;have Gw:=qI F;have Gn:=qI Z;clear F Z;refine wp_store_mid 41 (.tmp 36) (.tmp 32) rfl m (acc.length*6) #[.string key,.int .i64 k3,.int .i64 m3,.string s3,.slice p3 i3 d3,.slice q3 j3 e3] rfl rfl ad Wr (by simp [Value.oneCell']) ?_;refine y _ _ (.inr (.inl Wr)) ?_;clear y K;try simp only [XI]
    have I:=Gn.o.heap Gs.o (by simpa using Gt.o);have Gp:=qI I;have c3:=za (o:=4) (v:=.slice M acc.length L) I rfl;have z3:=zh (o:=4) I;clear I;refine qV 13 G rfl Wr (fun K y=>?_);go_simp;refine y _ _ (.inr (.inl Wr)) ?_;clear y K;try simp only [XI]
    refine yQ G Wr ?_ _;subst hR;try clear E G O
    clear c3 z3 ad;have A:=zd (i:=4) (v:=.slice (some ⟨m,0,none⟩) (acc.length+1) d6) Gp.o rfl;have t:=((Gn.o.mono (Y:=[bv,m]) Wz).setCell (p:=⟨bv,4,none⟩) (.inl Wz) (.slice (some ⟨m,0,none⟩) (acc.length+1) d6));have H:=zk Gw.o (zW _ bv 4 (.slice (some ⟨m,0,none⟩) (acc.length+1) d6)) (fun i a l=>by simp [Value.ownBlock] at a l;exact Gt.o (by rw [← l,← a]));revert A t H;generalize World.setCell _ ⟨bv,4,none⟩ (.slice (some ⟨m,0,none⟩) (acc.length+1) d6)=wF;intro A t H;have Gq:Qx W bv b2 b3 b6 bm p d wF:=(HJ.o.cap.step r.o ((Q.o.mono (Y:=p::bv::m::(Value.slice M acc.length L).ownBlock.toList) Wz).trans' ((Gc.o.mono (fun i a=>by simp at a ⊢;exact .inr (.inr (.inr a)))).trans' (t.mono (fun i a=>by simp at a ⊢;rcases a with h | h;exact .inr (.inl h);exact .inr (.inr (.inl h)))))) (fun i a=>by
     have B:=Gr.o;have aq:=Gv.o;have ap:=Q.o.size;rcases List.mem_cons.1 a with h | a
     ·exact .inl h
     rcases List.mem_cons.1 a with h | a;·exact .inr (.inl h)
     rcases List.mem_cons.1 a with h | a
     ·subst h;rcases B with B | B
      ·exact .inr (.inr (.inr (Gd.o _ B).1))
      ·exact .inr (.inr (.inr Ws))
     ·exact .inr (.inr (.inr (Gd.o _ (XD a)).1))))
    have C:∀ b,b<W.heap.size→b≠bv→b ∉ [bv,m]:=fun b h1 h2 l=>by
     have:=Gf.o.1;simp at l;rcases l with l | l
     ·exact h2 l
     ·omega
    have D:∀ b,b<W.heap.size→b ∉ (Value.slice M acc.length L).ownBlock.toList:=fun b h1 l=>by have:=(Gd.o _ (XD l)).1;omega
    have Gx:Hid (∀ x,PS w5 p S 4097 x→PS wF p S 4097 x):=qI (fun x h=>(h.kept Gc.o (D _ r.o.hp)).kept t (C _ r.o.hp (XC r.o.ltv)));have P:=((HJ.o.saw.kept Q.o (by have:=r.o.ltm;simp;omega)).kept Gc.o (D _ r.o.hm)).kept t (C _ r.o.hm r.o.vm.symm);go_wp2_with fail;go_end0;refine⟨rfl,kn Jc.o Gi.o Gx.o ⟨Gq,_,_,_,A⟩ (fun v hv=>?_)⟩;rw [Jd.o];have B:=HJ.o.snoc (key:=key) r.o Gq P A Q.o Gc.o t rfl Gr.o H hv Gh.o;rw [List.map_append];exact⟨_,_,B⟩
   ·have c3:=za (o:=4) (v:=.slice M acc.length L) Gs.o rfl;have z3:=zh (o:=4) Gs.o;go_simp;refine y _ _ (.inr (.inl Wr)) ?_;clear y K;try simp only [XI]
    clear c3 z3;have I:=zd (i:=4) (v:=.slice (some ⟨m,0,none⟩) (acc.length+1) d6) Gs.o rfl;have Gp:=qI I;have Gu:=qI (zW w6 bv 4 (.slice (some ⟨m,0,none⟩) (acc.length+1) d6));clear I;revert Gp Gu;generalize w6.setCell ⟨bv,4,none⟩ (.slice (some ⟨m,0,none⟩) (acc.length+1) d6)=w7;intro Gp Gu;have N:=zk Ja.o Gu.o (fun i a l=>by simp [Value.ownBlock] at a l;exact Gt.o (by rw [← l,← a]));obtain⟨F,ad,Z⟩:=xt (i:=acc.length) (g:=m) (c:=[.string key,.int .i64 k3,.int .i64 m3,.string s3,.slice p3 i3 d3,.slice q3 j3 e3]) N Gl.o rfl Gm.o (Nat.lt_succ_self _) rfl;rw [Gk.o] at F;have Gw:=qI F;have Gn:=qI Z;clear F Z N;refine qV 11 G rfl Wr (fun K y=>?_);refine wp_store_mid 41 (.tmp 36) (.tmp 32) rfl m (acc.length*6) #[.string key,.int .i64 k3,.int .i64 m3,.string s3,.slice p3 i3 d3,.slice q3 j3 e3] rfl rfl ad Wr (by simp [Value.oneCell']) ?_;refine y _ _ (.inr (.inl Wr)) ?_;clear y K;try simp only [XI]
    refine yQ G Wr ?_ _;subst hR;try clear E G O
    clear ad;have A:=Gn.o.heap Gp.o (by simpa using Gt.o);have t:=((Gu.o.mono (Y:=[bv,m]) Wz).trans' (Gn.o.mono (Y:=[bv,m]) Wz));have H:=Gw.o;revert A t H;generalize World.setCells _ m (acc.length*6) (#[.string key,.int .i64 k3,.int .i64 m3,.string s3,.slice p3 i3 d3,.slice q3 j3 e3]:Array Value).toList=wF;intro A t H;have Gq:Qx W bv b2 b3 b6 bm p d wF:=(HJ.o.cap.step r.o ((Q.o.mono (Y:=p::bv::m::(Value.slice M acc.length L).ownBlock.toList) Wz).trans' ((Gc.o.mono (fun i a=>by simp at a ⊢;exact .inr (.inr (.inr a)))).trans' (t.mono (fun i a=>by simp at a ⊢;rcases a with h | h;exact .inr (.inl h);exact .inr (.inr (.inl h)))))) (fun i a=>by
     have B:=Gr.o;have aq:=Gv.o;have ap:=Q.o.size;rcases List.mem_cons.1 a with h | a
     ·exact .inl h
     rcases List.mem_cons.1 a with h | a;·exact .inr (.inl h)
     rcases List.mem_cons.1 a with h | a
     ·subst h;rcases B with B | B
      ·exact .inr (.inr (.inr (Gd.o _ B).1))
      ·exact .inr (.inr (.inr Ws))
     ·exact .inr (.inr (.inr (Gd.o _ (XD a)).1))))
    have C:∀ b,b<W.heap.size→b≠bv→b ∉ [bv,m]:=fun b h1 h2 l=>by
     have:=Gf.o.1;simp at l;rcases l with l | l
     ·exact h2 l
     ·omega
    have D:∀ b,b<W.heap.size→b ∉ (Value.slice M acc.length L).ownBlock.toList:=fun b h1 l=>by have:=(Gd.o _ (XD l)).1;omega
    have Gx:Hid (∀ x,PS w5 p S 4097 x→PS wF p S 4097 x):=qI (fun x h=>(h.kept Gc.o (D _ r.o.hp)).kept t (C _ r.o.hp (XC r.o.ltv)));have P:=((HJ.o.saw.kept Q.o (by have:=r.o.ltm;simp;omega)).kept Gc.o (D _ r.o.hm)).kept t (C _ r.o.hm r.o.vm.symm);go_wp2_with fail;go_end0;refine⟨rfl,kn Jc.o Gi.o Gx.o ⟨Gq,_,_,_,A⟩ (fun v hv=>?_)⟩;rw [Jd.o];have B:=HJ.o.snoc (key:=key) r.o Gq P A Q.o Gc.o t rfl Gr.o H hv Gh.o;rw [List.map_append];exact⟨_,_,B⟩
  ·go_simp;have Gg:Hid (zb [] WD (WD.alloc (.cells #[.string ⟨#[]⟩,.int .i64 0,.int .i64 0,.string ⟨#[]⟩,.slice none 0 0,.slice none 0 0] 41))):=qI ((zb.refl [] WD).alloc _);have Gb:=qI (yv WD [.string ⟨#[]⟩,.int .i64 0,.int .i64 0,.string ⟨#[]⟩,.slice none 0 0,.slice none 0 0] 6 1 41 WD.heap.size rfl rfl Wo);have aj:(fun w':World=>w'.cell? ⟨bv,4,none⟩=some (.slice M acc.length L)∧w'.cell? ⟨b2,0,none⟩=some (.pointer (some ⟨p,0,none⟩))∧w'.cell? ⟨b3,0,none⟩=some (.int .i64 d)) (WD.alloc (.cells #[.string ⟨#[]⟩,.int .i64 0,.int .i64 0,.string ⟨#[]⟩,.slice none 0 0,.slice none 0 0] 41)):=⟨Gg.o.cell f.1 Wz,Gg.o.cell f.2.1 Wz,Gg.o.cell f.2.2 Wz⟩;refine y _ _ (.inr (.inr aj)) ?_;clear y K;try simp only [XI]
   clear f;have f:=aj;clear aj;revert f Gg Gb;generalize WD.alloc (.cells #[.string ⟨#[]⟩,.int .i64 0,.int .i64 0,.string ⟨#[]⟩,.slice none 0 0,.slice none 0 0] 41)=w4;intro Gg Gb f;have Jk:=qI (Ge.o.then Gg.o);refine qV 5 G rfl Wr (fun K y=>?_);go_simp;refine Calls.mono (CV.o _ Jk.o) ?_;rintro e w5 ag;obtain⟨a8,rfl,av,J,am⟩:=ag.saidX;obtain⟨k3,m3,s3,p3,i3,d3,q3,j3,e3,rfl⟩:=av;have Jr:=qI J;have Jj:=qI ((Jk.o.mono (Y:=[p]) Wz).trans' J);have Gz:=qI am;have Gh:Hid (w0.heap.size≤w4.heap.size):=qI Jk.o.size;have ai:(fun w':World=>w'.cell? ⟨bv,4,none⟩=some (.slice M acc.length L)∧w'.cell? ⟨b2,0,none⟩=some (.pointer (some ⟨p,0,none⟩))∧w'.cell? ⟨b3,0,none⟩=some (.int .i64 d)) w5:=⟨J.cell f.1 (by have:=r.o.ltv;simp;omega),J.cell f.2.1 (by simpa using r.o.p2),J.cell f.2.2 (by simpa using r.o.p3)⟩;clear ag J am;refine y _ _ (.inr (.inr ai)) ?_;clear y K;try simp only [XI]
   clear f;have f:=ai;clear ai;refine qU 6 ?_ G rfl rfl Wr E (fun w ae=>?_) f ?_;rotate_left;·exact zg
   try simp only [XI]
   have Q:=qI Jj.o;have Gi:=qI Gz.o;have Jb:=qI Gb.o;clear Gb;have Gb:=qI (Jb.o.kept Jr.o (fun i a l=>by simp [yx] at a l;have:=Ge.o.size;have:=Gv.o;have:=r.o.hp;omega));clear Gz;have U:=zk HJ.o.row Q.o (fun i a l=>by simp at l;have:=(Gd.o i a).1;have:=r.o.hp;omega);refine qV 9 G rfl Wr (fun K y=>?_);refine xa kS U Gb.o (by intro u hu;simp only [List.mem_cons,List.not_mem_nil,or_false] at hu;rcases hu with rfl | rfl | rfl | rfl | rfl | rfl <;> rfl) (by have:=HN.o;simp only [maxLen];omega) (XC HN.o) (XH Q.o.size Gv.o) (.tmp 27) (.tmp 34) rfl rfl rfl ?_;intro au d6 w6 z af al;obtain⟨m,rfl⟩:∃ m,au=some ⟨m,0,none⟩:=by
    rcases z.2 with ⟨h,h1⟩ | ⟨g,cap,a7,hv,_⟩;·omega
    ·simp only [Value.slice.injEq] at hv;exact⟨g,hv.1⟩
   have Gj:=qI z;have Gc:=qI af;have Gr:Hid ((Value.slice M acc.length L).ownBlock=some m∨m=w5.heap.size):=qI (by
    rcases al with h | h;·exact .inl (by rw [← h];rfl)
    ·exact .inr (by simpa [Value.ownBlock] using h))
   have Gf:Hid (W.heap.size≤m∧m<w6.heap.size):=qI (z.lt m rfl);have Gs:Hid (w6.heap[bv]? = some (.cells (kh 6 0 ⟨#[]⟩ (.slice none 0 0) (.slice M acc.length L)) 25 (0,0))):=qI (af.heap (Q.o.heap HJ.o.blk (by have:=r.o.ltv;simp;omega)) (fun l=>by have:=(Gd.o _ (XD l)).1;have:=r.o.hv;omega));have Gt:Hid (bv≠m):=qI (XH Gf.o.1 r.o.hv);clear U z af al f;refine y _ _ (.inl rfl) ?_;clear y K;try simp only [XI]
   have a9:(acc.length:Int)<(acc.length:Int)+1:=Ws;refine qW 10 ?_ G rfl rfl Wr E (fun w _=>?_) ?_;rotate_left;·exact zg
   try simp only [XI]
   refine qW 12 ?_ G rfl rfl Wr E (fun w _=>?_) ?_;rotate_left;·exact zg
   try simp only [XI]
   have ah:∀ x,x∈(mcs.map yj)++[vw]→x.length=6:=fun x l=>by
    rcases List.mem_append.1 l with l | l;·exact Jq.o x l
    ·simp at l;subst l;rfl
   have aa:w6.ownsRow W.heap.size 41 6 (.slice (some ⟨m,0,none⟩) (acc.length+1) d6) (acc.length+1) ((mcs.map yj)++[vw]).flatten:=by have B:=Gj.o;rw [yB] at B;rw [List.flatten_append];simp only [List.flatten_cons,List.flatten_nil,List.append_nil];exact B
   have Ja:=qI aa;have Gk:Hid ((((mcs.map yj)++[vw]).set acc.length [.string key,.int .i64 k3,.int .i64 m3,.string s3,.slice p3 i3 d3,.slice q3 j3 e3]).flatten=zZ (mcs++[(key,[.int .i64 k3,.int .i64 m3,.string s3,.slice p3 i3 d3,.slice q3 j3 e3])])):=qI (by
    rw [List.set_append_right _ _ (by have:=Gy.o;rw [List.length_map];omega),List.length_map,Gy.o,Nat.sub_self,yB,List.map_append];rfl)
   have Gl:=qI ah;have Gm:Hid (((mcs.map yj)++[vw]).length=acc.length+1):=qI (by rw [List.length_append,List.length_map,Gy.o];rfl);clear ah aa;refine ql (i:=11) (j:=13) G rfl rfl Wr Wr Wr (fun K y=>?_) (fun K y=>?_)
   ·obtain⟨F,ad,Z⟩:=xt (i:=acc.length) (g:=m) (c:=[.string key,.int .i64 k3,.int .i64 m3,.string s3,.slice p3 i3 d3,.slice q3 j3 e3]) Ja.o Gl.o rfl Gm.o (Nat.lt_succ_self _) rfl;rw [Gk.o] at F;have Gw:=qI F;have Gn:=qI Z;clear F Z;refine wp_store_mid 41 (.tmp 36) (.tmp 32) rfl m (acc.length*6) #[.string key,.int .i64 k3,.int .i64 m3,.string s3,.slice p3 i3 d3,.slice q3 j3 e3] rfl rfl ad Wr (by simp [Value.oneCell']) ?_;refine y _ _ (.inr (.inl Wr)) ?_;clear y K;try simp only [XI]
    have I:=Gn.o.heap Gs.o (by simpa using Gt.o);have Gp:=qI I;have c3:=za (o:=4) (v:=.slice M acc.length L) I rfl;have z3:=zh (o:=4) I;clear I;refine qV 13 G rfl Wr (fun K y=>?_);go_simp;refine y _ _ (.inr (.inl Wr)) ?_;clear y K;try simp only [XI]
    refine yQ G Wr ?_ _;subst hR;try clear E G O
    clear c3 z3 ad;have A:=zd (i:=4) (v:=.slice (some ⟨m,0,none⟩) (acc.length+1) d6) Gp.o rfl;have t:=((Gn.o.mono (Y:=[bv,m]) Wz).setCell (p:=⟨bv,4,none⟩) (.inl Wz) (.slice (some ⟨m,0,none⟩) (acc.length+1) d6));have H:=zk Gw.o (zW _ bv 4 (.slice (some ⟨m,0,none⟩) (acc.length+1) d6)) (fun i a l=>by simp [Value.ownBlock] at a l;exact Gt.o (by rw [← l,← a]));revert A t H;generalize World.setCell _ ⟨bv,4,none⟩ (.slice (some ⟨m,0,none⟩) (acc.length+1) d6)=wF;intro A t H;have Gq:Qx W bv b2 b3 b6 bm p d wF:=(HJ.o.cap.step r.o ((Q.o.mono (Y:=p::bv::m::(Value.slice M acc.length L).ownBlock.toList) Wz).trans' ((Gc.o.mono (fun i a=>by simp at a ⊢;exact .inr (.inr (.inr a)))).trans' (t.mono (fun i a=>by simp at a ⊢;rcases a with h | h;exact .inr (.inl h);exact .inr (.inr (.inl h)))))) (fun i a=>by
     have B:=Gr.o;have aq:=Gv.o;have ap:=Q.o.size;rcases List.mem_cons.1 a with h | a
     ·exact .inl h
     rcases List.mem_cons.1 a with h | a;·exact .inr (.inl h)
     rcases List.mem_cons.1 a with h | a
     ·subst h;rcases B with B | B
      ·exact .inr (.inr (.inr (Gd.o _ B).1))
      ·exact .inr (.inr (.inr Ws))
     ·exact .inr (.inr (.inr (Gd.o _ (XD a)).1))))
    have C:∀ b,b<W.heap.size→b≠bv→b ∉ [bv,m]:=fun b h1 h2 l=>by
     have:=Gf.o.1;simp at l;rcases l with l | l
     ·exact h2 l
     ·omega
    have D:∀ b,b<W.heap.size→b ∉ (Value.slice M acc.length L).ownBlock.toList:=fun b h1 l=>by have:=(Gd.o _ (XD l)).1;omega
    have Gx:Hid (∀ x,PS w5 p S 4097 x→PS wF p S 4097 x):=qI (fun x h=>(h.kept Gc.o (D _ r.o.hp)).kept t (C _ r.o.hp (XC r.o.ltv)));have P:=((HJ.o.saw.kept Q.o (by have:=r.o.ltm;simp;omega)).kept Gc.o (D _ r.o.hm)).kept t (C _ r.o.hm r.o.vm.symm);go_wp2_with fail;go_end0;refine⟨rfl,kn Jc.o Gi.o Gx.o ⟨Gq,_,_,_,A⟩ (fun v hv=>?_)⟩;rw [Jd.o];have B:=HJ.o.snoc (key:=key) r.o Gq P A Q.o Gc.o t rfl Gr.o H hv Gh.o;rw [List.map_append];exact⟨_,_,B⟩
   ·have c3:=za (o:=4) (v:=.slice M acc.length L) Gs.o rfl;have z3:=zh (o:=4) Gs.o;go_simp;refine y _ _ (.inr (.inl Wr)) ?_;clear y K;try simp only [XI]
    clear c3 z3;have I:=zd (i:=4) (v:=.slice (some ⟨m,0,none⟩) (acc.length+1) d6) Gs.o rfl;have Gp:=qI I;have Gu:=qI (zW w6 bv 4 (.slice (some ⟨m,0,none⟩) (acc.length+1) d6));clear I;revert Gp Gu;generalize w6.setCell ⟨bv,4,none⟩ (.slice (some ⟨m,0,none⟩) (acc.length+1) d6)=w7;intro Gp Gu;have N:=zk Ja.o Gu.o (fun i a l=>by simp [Value.ownBlock] at a l;exact Gt.o (by rw [← l,← a]));obtain⟨F,ad,Z⟩:=xt (i:=acc.length) (g:=m) (c:=[.string key,.int .i64 k3,.int .i64 m3,.string s3,.slice p3 i3 d3,.slice q3 j3 e3]) N Gl.o rfl Gm.o (Nat.lt_succ_self _) rfl;rw [Gk.o] at F;have Gw:=qI F;have Gn:=qI Z;clear F Z N;refine qV 11 G rfl Wr (fun K y=>?_);refine wp_store_mid 41 (.tmp 36) (.tmp 32) rfl m (acc.length*6) #[.string key,.int .i64 k3,.int .i64 m3,.string s3,.slice p3 i3 d3,.slice q3 j3 e3] rfl rfl ad Wr (by simp [Value.oneCell']) ?_;refine y _ _ (.inr (.inl Wr)) ?_;clear y K;try simp only [XI]
    refine yQ G Wr ?_ _;subst hR;try clear E G O
    clear ad;have A:=Gn.o.heap Gp.o (by simpa using Gt.o);have t:=((Gu.o.mono (Y:=[bv,m]) Wz).trans' (Gn.o.mono (Y:=[bv,m]) Wz));have H:=Gw.o;revert A t H;generalize World.setCells _ m (acc.length*6) (#[.string key,.int .i64 k3,.int .i64 m3,.string s3,.slice p3 i3 d3,.slice q3 j3 e3]:Array Value).toList=wF;intro A t H;have Gq:Qx W bv b2 b3 b6 bm p d wF:=(HJ.o.cap.step r.o ((Q.o.mono (Y:=p::bv::m::(Value.slice M acc.length L).ownBlock.toList) Wz).trans' ((Gc.o.mono (fun i a=>by simp at a ⊢;exact .inr (.inr (.inr a)))).trans' (t.mono (fun i a=>by simp at a ⊢;rcases a with h | h;exact .inr (.inl h);exact .inr (.inr (.inl h)))))) (fun i a=>by
     have B:=Gr.o;have aq:=Gv.o;have ap:=Q.o.size;rcases List.mem_cons.1 a with h | a
     ·exact .inl h
     rcases List.mem_cons.1 a with h | a;·exact .inr (.inl h)
     rcases List.mem_cons.1 a with h | a
     ·subst h;rcases B with B | B
      ·exact .inr (.inr (.inr (Gd.o _ B).1))
      ·exact .inr (.inr (.inr Ws))
     ·exact .inr (.inr (.inr (Gd.o _ (XD a)).1))))
    have C:∀ b,b<W.heap.size→b≠bv→b ∉ [bv,m]:=fun b h1 h2 l=>by
     have:=Gf.o.1;simp at l;rcases l with l | l
     ·exact h2 l
     ·omega
    have D:∀ b,b<W.heap.size→b ∉ (Value.slice M acc.length L).ownBlock.toList:=fun b h1 l=>by have:=(Gd.o _ (XD l)).1;omega
    have Gx:Hid (∀ x,PS w5 p S 4097 x→PS wF p S 4097 x):=qI (fun x h=>(h.kept Gc.o (D _ r.o.hp)).kept t (C _ r.o.hp (XC r.o.ltv)));have P:=((HJ.o.saw.kept Q.o (by have:=r.o.ltm;simp;omega)).kept Gc.o (D _ r.o.hm)).kept t (C _ r.o.hm r.o.vm.symm);go_wp2_with fail;go_end0;refine⟨rfl,kn Jc.o Gi.o Gx.o ⟨Gq,_,_,_,A⟩ (fun v hv=>?_)⟩;rw [Jd.o];have B:=HJ.o.snoc (key:=key) r.o Gq P A Q.o Gc.o t rfl Gr.o H hv Gh.o;rw [List.map_append];exact⟨_,_,B⟩
end
end Go.Proofs.YtjccecajigmfkaaGreatDoor

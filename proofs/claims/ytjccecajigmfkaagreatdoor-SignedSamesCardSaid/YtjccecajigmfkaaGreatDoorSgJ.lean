/- Parts of one proof, merged: XKQ XUA. -/
import Derived.Test.YtjccecajigmfkaaGreatDoorSgI
set_option linter.all false
set_option maxHeartbeats 12800000
set_option maxRecDepth 10000
namespace Go.Proofs.YtjccecajigmfkaaGreatDoor
open Go.Proofs.Tryz
open Go.RowKit
variable {ms:List PC}{n:Nat}{w:World}
structure SortL {n:Nat}(B:Nat)(W2:World)(v:VS (V n))(vl vm:Value)(k:Nat)(wr:World)(ls:List (List Value)):Prop where
 row:wr.ownsRow B 25 5 vl v.l.length ls.flatten
 all:zM (Rep n (fun g=>B≤g∧vl.ownBlock≠some g∧vm.ownBlock≠some g) wr) ls ((v.l.take k).map (zI n)++(v.l.drop k).map id)
 kept:zb vl.ownBlock.toList W2 wr
structure SortM {n:Nat}(B:Nat)(W2:World)(v:VS (V n))(vl vm:Value)(k:Nat)(wr:World)(ms:List (ByteArray×List Value)):Prop where
 row:wr.ownsRow B 41 6 vm v.m.length (zZ ms)
 all:zM (bh (Rep n (fun g=>B≤g∧vl.ownBlock≠some g∧vm.ownBlock≠some g) wr)) ms ((v.m.take k).map (fun p=>(p.1,zI n p.2))++(v.m.drop k).map id)
 kept:zb vm.ownBlock.toList W2 wr
theorem Rep.conv {S:Nat→Prop}{cs:List Value}{v:V n}(h:Rep n S w cs v):∃ k m s p i c q j d,cs=[.int .i64 k,.int .i64 m,.string s,.slice p i c,.slice q j d]:=by
 obtain⟨k,m,s,a,b,rfl⟩:=h.five;obtain⟨p,i,c,q,j,d,rfl,rfl⟩:=h.sl;exact⟨k,m,s,p,i,c,q,j,d,rfl⟩
theorem sortAny {B cap:Nat}{a:Option Addr}(b:w.ownsRow B 41 6 (.slice a n cap) n (ms.flatMap PC.enc))(j:n≤1000000) : Calls prog 120 #[.slice a n cap,.func (.func 121) #[] #[]] w fun e w'=> e = .returned (.tuple #[])∧∃ ds:List PC,ds.Perm ms∧ds.Pairwise (fun x y=>ltB y.key x.key=false)∧w'.ownsRow B 41 6 (.slice a n cap) n (ds.flatMap PC.enc)∧zb (Value.slice a n cap).ownBlock.toList w w':=by
 have l:ms.length=n:=by have:=b.1;rw [QX] at this;omega
 cases a with
 | none=>
  have m:n=0∧cap=0:=by
   rcases b.2 with ⟨h,f⟩ | ⟨g,d,i,hv,_⟩;·simp only [Value.slice.injEq] at h;exact⟨h.2.1,h.2.2⟩
   ·simp only [Value.slice.injEq] at hv;cases hv.1
  obtain⟨rfl,rfl⟩:=m;have:ms=[]:=List.eq_nil_of_length_eq_zero l;subst this;exact (AnyF.slices_SortFunc_none Tryz.shSort none 0 _ w).mono fun e w' ⟨f,h2⟩=>⟨f,[],List.Perm.refl _,List.Pairwise.nil,by rw [h2];exact b,by rw [h2];exact Wd⟩
 | some ad=>
  have k:∃ g,ad=⟨g,0,none⟩:=by
   rcases b.2 with ⟨h,f⟩ | ⟨g,d,i,hv,_⟩;·simp only [Value.slice.injEq] at h;cases h.1
   ·simp only [Value.slice.injEq,Option.some.injEq] at hv;exact⟨g,hv.1⟩
  obtain⟨g,rfl⟩:=k;exact (sortPairs_any b l j).mono fun e w' ⟨f,ds,h2,h3,h4,h5⟩=>⟨f,ds,h2,h3,h4,by simpa [Value.ownBlock] using h5⟩
theorem sorted_pairs {R:List Value→V n→Prop}{b:List PC}{xs:List (ByteArray×V n)}(h:zM (bh R) (ms.map (fun x=>(x.key,x.cs))) xs)(hp:b.Perm ms)(r:b.Pairwise (fun x y=>ltB y.key x.key=false))(s:(xs.map (fun p=>p.1)).Nodup) : zM (bh R) (b.map (fun x=>(x.key,x.cs))) (xs.mergeSort leK):=by
 obtain⟨ys,q,h2⟩:=h.perm (hp.map _);have a:∀ i (f:i<b.length) (e:i<ys.length),ys[i].1=b[i].key:=fun i f e=>by have:=(h2.2 i _ ys[i] (List.getElem?_eq_getElem (by simpa using f)) (List.getElem?_eq_getElem e)).1;simpa using this.symm
 have m:b.length=ys.length:=by simpa using h2.1
 have d:ys.Pairwise (fun x y=>leK x y=true):=by rw [List.pairwise_iff_getElem];intro i j f t k;have h3:=(List.pairwise_iff_getElem.1 r) i j Ws Ws k;unfold ltB at h3;rw [decide_eq_false_iff_not,List.not_lt] at h3;unfold leK;rw [decide_eq_true_iff,a i Ws f,a j Ws t];exact h3
 have l:(ys.map (fun p=>p.1)).Nodup:=(q.map (fun p:ByteArray×V n=>p.1)).nodup_iff.2 s;have u:ys=xs.mergeSort leK:=QG (q.trans (List.mergeSort_perm xs leK).symm) d (List.pairwise_mergeSort Qt KY xs) l;rw [← u];exact h2
def vp (n : Nat) : Prop := ∀ (v : V n) {S : Nat → Prop} {w : World} {cs : List Value}, Rep n S w cs v → zP n v → zo n v = true →
    Calls prog 68 #[.agg cs.toArray] w fun e w'=>(∃ cs':List Value,e = .returned (.agg cs'.toArray)∧xU n w.heap.size w' cs' (zI n v))∧zb [] w w'
theorem zar (ay:vp n):vp (n+1):=fun (v:VS (V n)) {S}{w}{cs} h hs hrt=>by
  have Ji:=qI hs;have Jj:=qI hrt;have Jn:=qI (right_nodup hrt);have IH:=qI ay;have bn:v.l.length≤20000:=XC hs.few;have bm:v.m.length≤20000:=XC hs.few;obtain⟨kd,nm,st,a,ca,ea,b,cb,eb,rfl⟩:=h.conv;obtain⟨W0,Gv⟩:=XE ((w.alloc (.cells #[.int .i64 kd,.int .i64 nm,.string st,.slice a ca ea,.slice b cb eb] 25)).alloc (.cells #[.int .i64 0,.int .i64 0,.string ⟨#[]⟩,.slice none 0 0,.slice none 0 0] 25));have Gd:Hid (W0.heap.size=w.heap.size+2):=qI (by rw [Gv.o];simp);have Jk:Hid (zb [] w W0):=qI (kA2 Gv.o);have Jo:Hid (W0.heap[w.heap.size+1]? = some (.cells #[.int .i64 0,.int .i64 0,.string ⟨#[]⟩,.slice none 0 0,.slice none 0 0] 25 (0,0))):=qI (by
   rw [Gv.o];exact ze Wz)
  have CC:=qI (clone_any (n+1) v (h.k0 Jk.o) hs);clear h hs hrt;go_enter func68,ntmps68;go_wp2_with fail;rw [← Gv.o];refine CC.o.mono ?_;rintro e M ⟨⟨bk,rfl,ab⟩,aA⟩;have Jp:=qI ab.rep;obtain⟨vl,vm,lcs,mcs,rfl,a1,a4,az,aE,aD,a8⟩:=ab;obtain⟨Y,N,rfl,-,-⟩:=(Slc.of_row a1).form;obtain⟨J,cm,rfl,-,-⟩:=(Slc.of_row az).form;have Gn:=qI a1;have Jq:=qI a4;have Gl:=qI az;have Jr:=qI aE;have Jl:=qI (And.intro aD a8);have Gf:=qI aA;clear a1 a4 az aE aD a8 aA CC;obtain⟨W2,Gp⟩:=XE (M.alloc (.cells #[.int .i64 v.kind,.int .i64 v.num,.string v.s,.slice Y v.l.length N,.slice J v.m.length cm] 25));have Gm:Hid (zb [] M W2):=qI (kA1 Gp.o);have Gy:Hid (yZ W2 M.heap.size v.kind v.num v.s (.slice Y v.l.length N) (.slice J v.m.length cm)):=qI (by rw [Gp.o];exact xr _ _ _ _ _ _ _);have Gq:Hid (W2.heap.size=M.heap.size+1):=qI (by rw [Gp.o];simp);obtain⟨c0,c1,c2,c3,c4⟩:=Gy.o;rw [Gp.o] at c0 c1 c2 c3 c4;go_wp2_with fail;rw [← Gp.o];clear c0 c1 c2 c3 c4
  have Js:Hid (SortL W0.heap.size W2 v (.slice Y v.l.length N) (.slice J v.m.length cm) 0 W2 lcs):=qI {
   row:=zk Gn.o Gm.o Wz
   all:=by simpa using Jq.o.mono fun _ _ _ r=>r.k0 Gm.o
   kept:=Wd }
  go_loopw [11] (fun i wr=>∃ (k:Nat) (ls:List (List Value)),i = .int .i64 k∧k≤v.l.length∧SortL W0.heap.size W2 v (.slice Y v.l.length N) (.slice J v.m.length cm) k wr ls) (fun i _=>v.l.length-(intOf i).toNat);case atStart=>exact⟨0,_,rfl,XB,Js.o⟩
  case round=>
   obtain⟨k,ls,rfl,hk,aj⟩:=hrel;have C:=qI aj;clear aj;by_cases I:k<v.l.length
   ·have aK:(k:Int)<v.l.length:=by omega
    obtain⟨g,rfl,aM,aU⟩:∃ g,Y=some ⟨g,0,none⟩∧W0.heap.size≤g∧g<M.heap.size:=by
     rcases Gn.o.2 with ⟨_,h0⟩ | ⟨g,cap,aN,hv,r1,r2,_⟩;·omega
     ·simp only [Value.slice.injEq] at hv;exact⟨g,hv.1,r1,lt_of_block r2⟩
    have aw:ls.length=v.l.length:=by rw [C.o.all.1];simp;omega
    have ae:k<ls.length:=Ws;have E:=C.o.all.2 k ls[k] v.l[k] (List.getElem?_eq_getElem ae) (mixed_get (zI n) id v.l k I);obtain⟨xk,xm,xs,xp,xi,xc,xq,xj,xd,ex⟩:=E.conv;obtain⟨g',o',aB,af,q0,q1,q2,q3,q4⟩:=(Slc.of_row C.o.row).at5 (fun c hc=>by obtain⟨y,_,r⟩:=C.o.all.mem_left hc;exact r.len) ae ex;simp only [Value.slice.injEq,Option.some.injEq,Addr.mk.injEq,and_true,true_and] at af;obtain⟨⟨rfl,rfl⟩,-⟩:=af;rw [ex] at E;have Gz:=qI E;have Gr:Hid (zb [g] W2 wr):=qI (by have:=C.o.kept;simpa [Value.ownBlock] using this);have ao:g≠M.heap.size:=Ws;have y3:=(Gy.o.kept Gr.o (by simpa using Ne.symm ao)).c3;have Ja:=qI (Ji.o.kid (je (List.getElem_mem I)));have Jb:=qI (jg Jj.o (je (List.getElem_mem I)));clear E;rw [Nat.zero_add] at q0 q1 q2 q3 q4;go_wp2_with fail;refine zt (n:=11) (fun w':World=>w'.cell? ⟨M.heap.size,3,none⟩=some (.slice (some ⟨g,0,none⟩) v.l.length N)∧w'.cell? ⟨g,k*5,none⟩=some (.int .i64 xk)∧w'.cell? ⟨g,k*5+1,none⟩=some (.int .i64 xm)∧w'.cell? ⟨g,k*5+2,none⟩=some (.string xs)∧w'.cell? ⟨g,k*5+3,none⟩=some (.slice xp xi xc)∧w'.cell? ⟨g,k*5+4,none⟩=some (.slice xq xj xd)) 10 Wr Wr ?_;change zS _ _ _ _ _ _ _ _ _ wr.drew;have d:(fun w':World=>w'.cell? ⟨M.heap.size,3,none⟩=some (.slice (some ⟨g,0,none⟩) v.l.length N)∧w'.cell? ⟨g,k*5,none⟩=some (.int .i64 xk)∧w'.cell? ⟨g,k*5+1,none⟩=some (.int .i64 xm)∧w'.cell? ⟨g,k*5+2,none⟩=some (.string xs)∧w'.cell? ⟨g,k*5+3,none⟩=some (.slice xp xi xc)∧w'.cell? ⟨g,k*5+4,none⟩=some (.slice xq xj xd)) wr.drew:=⟨y3,q0,q1,q2,q3,q4⟩;have Gb:Hid (zb [] wr wr.drew):=qI Wd.drew;clear y3 q0 q1 q2 q3 q4;revert d Gb;generalize wr.drew=WD;intro d Gb;refine zF ?_;intro O R B hR;have t:kI R:=by subst hR;exact fun _ _ _ _ _ h=>h
    refine qT 0 ?_ B rfl rfl Wr t (fun w f=>?_) d ?_;rotate_left;·obtain⟨W,X,P,Q,U,Z⟩:=f;exact zg
    try simp only [XI]
    refine qT 1 ?_ B rfl rfl Wr t (fun w f=>?_) d ?_;rotate_left;·obtain⟨W,X,P,Q,U,Z⟩:=f;exact zg
    try simp only [XI]
    refine qT 2 ?_ B rfl rfl Wr t (fun w f=>?_) d ?_;rotate_left;·obtain⟨W,X,P,Q,U,Z⟩:=f;exact zg
    try simp only [XI]
    refine qT 3 ?_ B rfl rfl Wr t (fun w f=>?_) d ?_;rotate_left;·obtain⟨W,X,P,Q,U,Z⟩:=f;exact zg
    try simp only [XI]
    refine qT 4 ?_ B rfl rfl Wr t (fun w f=>?_) d ?_;rotate_left;·obtain⟨W,X,P,Q,U,Z⟩:=f;exact zg
    try simp only [XI]
    refine qT 5 ?_ B rfl rfl Wr t (fun w f=>?_) d ?_;rotate_left;·obtain⟨W,X,P,Q,U,Z⟩:=f;exact zg
    try simp only [XI]
    refine qT 6 ?_ B rfl rfl Wr t (fun w f=>?_) d ?_;rotate_left;·obtain⟨W,X,P,Q,U,Z⟩:=f;exact zg
    try simp only [XI]
    refine qT 7 ?_ B rfl rfl Wr t (fun w f=>?_) d ?_;rotate_left;·obtain⟨W,X,P,Q,U,Z⟩:=f;exact zg
    try simp only [XI]
    refine qO 8 B rfl Wr (fun K L=>?_);go_simp;refine Calls.mono (IH.o v.l[k] (Gz.o.k0 Gb.o) Ja.o Jb.o) ?_;rintro e w3 ⟨⟨c3,rfl,G⟩,z⟩;have Gg:=qI G.rep;have Gh:=qI (Gb.o.then z);have aa:(fun w':World=>w'.cell? ⟨M.heap.size,3,none⟩=some (.slice (some ⟨g,0,none⟩) v.l.length N)∧w'.cell? ⟨g,k*5,none⟩=some (.int .i64 xk)∧w'.cell? ⟨g,k*5+1,none⟩=some (.int .i64 xm)∧w'.cell? ⟨g,k*5+2,none⟩=some (.string xs)∧w'.cell? ⟨g,k*5+3,none⟩=some (.slice xp xi xc)∧w'.cell? ⟨g,k*5+4,none⟩=some (.slice xq xj xd)) w3:=⟨z.cell d.1 Wz,z.cell d.2.1 Wz,z.cell d.2.2.1 Wz,z.cell d.2.2.2.1 Wz,z.cell d.2.2.2.2.1 Wz,z.cell d.2.2.2.2.2 Wz⟩;have Gi:Hid (wr.heap.size≤WD.heap.size∧WD.heap.size≤w3.heap.size):=qI ⟨Gb.o.size,z.size⟩;clear G z;refine L _ _ (.inr aa) ?_;clear L K;try simp only [XI]
    clear d;have d:=aa;clear aa;refine qO 9 B rfl Wr (fun K L=>?_);go_simp;refine L _ _ (.inr d) ?_;clear L K;try simp only [XI]
    have u:c3.length=5:=Gg.o.len;have av:∀ x,x∈ls→x.length=5:=fun c hc=>by obtain⟨y,_,r⟩:=C.o.all.mem_left hc;exact r.len
    obtain⟨ag,an,ak⟩:=xt (i:=k) (g:=g) (c:=c3) (zk C.o.row Gh.o Wz) av rfl aw I u;have Jc:=qI ag;have Gj:=qI ak;clear ag ak av;refine qO 10 B rfl Wr (fun K L=>?_);refine wp_store_mid 25 (.tmp 23) (.tmp 22) rfl g (k*5) c3.toArray rfl rfl (by rw [List.size_toArray,u];exact an) (by rw [List.size_toArray,u];kernel_rfl) (all_oneCell_toArray Gg.o.one) ?_;refine L _ _ (.inl rfl) ?_;clear L K;try simp only [XI]
    refine zz B Wr ?_ _;subst hR;try clear t B O
    clear an d u;go_wp2;case roundEnd=>
     have aV:=Gd.o;have aH:=Gq.o;have aP:=Gr.o.size;have aR:=Gi.o
     refine⟨⟨k+1,ls.set k c3,by go_num,Ws,{
      row:=Jc.o
      all:=?_
      kept:=?_ }⟩,by simp [intOf];omega⟩
     ·rw [← take_set (zI n) id v.l k I];refine zM.set (C.o.all.mono fun c y _ r=>r.move ((Gh.o.mono Wz).trans' Gj.o) ?_) k (Gg.o.move Gj.o ?_);·intro i j ⟨H,h2,h3⟩;exact⟨by intro q;simp at q;subst q;exact h2 rfl,H,h2,h3⟩
      ·intro i j H;have a7:=Gl.o.lt;refine⟨by intro q;simp at q;omega,Ws,?_,?_⟩;·intro q;simp [Value.ownBlock] at q;omega
       ·intro q;have:=(a7 i q).2;omega
     ·have H:=(C.o.kept.then Gh.o).trans Gj.o (by intro i j;simp at j;subst j;exact .inl (by simp [Value.ownBlock]));exact H
   ·obtain rfl:k=v.l.length:=by omega
    obtain⟨WL,rfl⟩:=XF wr;obtain⟨aT,rfl⟩:=XF ls;have Gc:=qI C.o;have D:Hid (∀ i,i∈(Value.slice Y v.l.length N).ownBlock.toList→W0.heap.size≤i∧i<M.heap.size∧kind M i=25+2):=qI fun i j=>⟨(Gn.o.lt i (XD j)).1,(Gn.o.lt i (XD j)).2,yA Gn.o (XD j)⟩
    have A:Hid (∀ i,(Value.slice J v.m.length cm).ownBlock=some i→W0.heap.size≤i∧i<M.heap.size∧kind M i=41+2):=qI fun i j=>⟨(Gl.o.lt i j).1,(Gl.o.lt i j).2,yA Gl.o j⟩;have Jd:Hid (zb (Value.slice Y v.l.length N).ownBlock.toList M WL):=qI ((Gm.o.mono Wz).trans' Gc.o.kept);have Gs:Hid (W2.heap.size≤WL.heap.size):=qI Gc.o.kept.size;have ar:=Gy.o.kept Gc.o.kept (by intro q;have:=D.o _ q;omega);have Gt:=qI ar
    have Je:Hid (SortM W0.heap.size WL v (.slice Y v.l.length N) (.slice J v.m.length cm) 0 WL mcs):=qI {
     row:=zk Gl.o Jd.o (fun i j q=>by have H:=(A.o i j).2.2;have h2:=(D.o i q).2.2;rw [H] at h2;exact absurd h2 Wo)
     all:=by simpa using Jr.o.mono fun _ _ _ r=>⟨r.1,r.2.move Jd.o (fun i j ⟨H,h2,h3⟩=>⟨fun q=>h2 (XD q),H,h2,h3⟩)⟩
     kept:=Wd }
    obtain⟨c0,c1,c2,c3,c4⟩:=ar;clear C;go_wp2_with fail;clear c0 c1 c2 c3 c4;go_loopw [28] (fun i wr=>∃ (k:Nat) (ms:List (ByteArray×List Value)),i = .int .i64 k∧k≤v.m.length∧SortM W0.heap.size WL v (.slice Y v.l.length N) (.slice J v.m.length cm) k wr ms) (fun i _=>v.m.length-(intOf i).toNat);case atStart=>exact⟨0,_,rfl,XB,Je.o⟩
    case round=>
     obtain⟨k,ls,rfl,hk,aj⟩:=hrel;have C:=qI aj;clear aj;by_cases I:k<v.m.length
     ·have aK:(k:Int)<v.m.length:=by omega
      obtain⟨g,rfl,aM,aU⟩:∃ g,J=some ⟨g,0,none⟩∧W0.heap.size≤g∧g<M.heap.size:=by
       rcases Gl.o.2 with ⟨_,h0⟩ | ⟨g,cap,aN,hv,r1,r2,_⟩;·omega
       ·simp only [Value.slice.injEq] at hv;exact⟨g,hv.1,r1,lt_of_block r2⟩
      have aw:ls.length=v.m.length:=by rw [C.o.all.1];simp;omega
      have ae:k<ls.length:=Ws;have ap:=C.o.all.2 k ls[k] v.m[k] (List.getElem?_eq_getElem ae) (mixed_get (fun p:ByteArray×V n=>(p.1,zI n p.2)) id v.m k I);obtain⟨xk,xm,xs,xp,xi,xc,xq,xj,xd,ex⟩:=ap.2.conv;have ax:∀ c,c∈ls.map yj→c.length=6:=fun c hc=>by obtain⟨p,hp,rfl⟩:=List.mem_map.1 hc;obtain⟨y,_,r⟩:=C.o.all.mem_left hp;simp [yj,r.2.len]
      obtain⟨g',o',aB,af,-,q0,q1,q2,q3,q4⟩:=(Slc.of_row C.o.row).at6 ax ae ex;simp only [Value.slice.injEq,Option.some.injEq,Addr.mk.injEq,and_true,true_and] at af;obtain⟨⟨rfl,rfl⟩,-⟩:=af;have E:=ap.2;rw [ex] at E;have Gz:=qI E;have Jf:=qI ap.1;have Gr:Hid (zb [g] WL wr):=qI (by have:=C.o.kept;simpa [Value.ownBlock] using this);have ao:g≠M.heap.size:=Ws;have y3:=(Gt.o.kept Gr.o (by simpa using Ne.symm ao)).c4;have Ja:=qI (Ji.o.kid (kN (List.getElem_mem I)));have Jb:=qI (jg Jj.o (kN (List.getElem_mem I)));have aO:=qI ax;clear E ap ax;rw [Nat.zero_add] at q0 q1 q2 q3 q4;go_wp2_with fail;refine zt (n:=13) (fun w':World=>w'.cell? ⟨M.heap.size,4,none⟩=some (.slice (some ⟨g,0,none⟩) v.m.length cm)∧w'.cell? ⟨g,k*6+1,none⟩=some (.int .i64 xk)∧w'.cell? ⟨g,k*6+2,none⟩=some (.int .i64 xm)∧w'.cell? ⟨g,k*6+3,none⟩=some (.string xs)∧w'.cell? ⟨g,k*6+4,none⟩=some (.slice xp xi xc)∧w'.cell? ⟨g,k*6+5,none⟩=some (.slice xq xj xd)) 12 Wr Wr ?_;change zS _ _ _ _ _ _ _ _ _ wr.drew;have d:(fun w':World=>w'.cell? ⟨M.heap.size,4,none⟩=some (.slice (some ⟨g,0,none⟩) v.m.length cm)∧w'.cell? ⟨g,k*6+1,none⟩=some (.int .i64 xk)∧w'.cell? ⟨g,k*6+2,none⟩=some (.int .i64 xm)∧w'.cell? ⟨g,k*6+3,none⟩=some (.string xs)∧w'.cell? ⟨g,k*6+4,none⟩=some (.slice xp xi xc)∧w'.cell? ⟨g,k*6+5,none⟩=some (.slice xq xj xd)) wr.drew:=⟨y3,q0,q1,q2,q3,q4⟩;have Gb:Hid (zb [] wr wr.drew):=qI Wd.drew;clear y3 q0 q1 q2 q3 q4;revert d Gb;generalize wr.drew=WD;intro d Gb;refine zF ?_;intro O R B hR;have t:kI R:=by subst hR;exact fun _ _ _ _ _ h=>h
      refine qT 0 ?_ B rfl rfl Wr t (fun w f=>?_) d ?_;rotate_left;·obtain⟨W,X,P,Q,U,Z⟩:=f;exact zg
      try simp only [XI]
      refine qT 1 ?_ B rfl rfl Wr t (fun w f=>?_) d ?_;rotate_left;·obtain⟨W,X,P,Q,U,Z⟩:=f;exact zg
      try simp only [XI]
      refine qT 2 ?_ B rfl rfl Wr t (fun w f=>?_) d ?_;rotate_left;·obtain⟨W,X,P,Q,U,Z⟩:=f;exact zg
      try simp only [XI]
      refine qT 3 ?_ B rfl rfl Wr t (fun w f=>?_) d ?_;rotate_left;·obtain⟨W,X,P,Q,U,Z⟩:=f;exact zg
      try simp only [XI]
      refine qT 4 ?_ B rfl rfl Wr t (fun w f=>?_) d ?_;rotate_left;·obtain⟨W,X,P,Q,U,Z⟩:=f;exact zg
      try simp only [XI]
      refine qT 5 ?_ B rfl rfl Wr t (fun w f=>?_) d ?_;rotate_left;·obtain⟨W,X,P,Q,U,Z⟩:=f;exact zg
      try simp only [XI]
      refine qT 6 ?_ B rfl rfl Wr t (fun w f=>?_) d ?_;rotate_left;·obtain⟨W,X,P,Q,U,Z⟩:=f;exact zg
      try simp only [XI]
      refine qT 7 ?_ B rfl rfl Wr t (fun w f=>?_) d ?_;rotate_left;·obtain⟨W,X,P,Q,U,Z⟩:=f;exact zg
      try simp only [XI]
      refine qT 8 ?_ B rfl rfl Wr t (fun w f=>?_) d ?_;rotate_left;·obtain⟨W,X,P,Q,U,Z⟩:=f;exact zg
      try simp only [XI]
      refine qO 9 B rfl Wr (fun K L=>?_);go_simp;refine Calls.mono (IH.o v.m[k].2 (Gz.o.k0 Gb.o) Ja.o Jb.o) ?_;rintro e w3 ⟨⟨c3,rfl,G⟩,z⟩;have Gg:=qI G.rep;have Gh:=qI (Gb.o.then z);have aa:(fun w':World=>w'.cell? ⟨M.heap.size,4,none⟩=some (.slice (some ⟨g,0,none⟩) v.m.length cm)∧w'.cell? ⟨g,k*6+1,none⟩=some (.int .i64 xk)∧w'.cell? ⟨g,k*6+2,none⟩=some (.int .i64 xm)∧w'.cell? ⟨g,k*6+3,none⟩=some (.string xs)∧w'.cell? ⟨g,k*6+4,none⟩=some (.slice xp xi xc)∧w'.cell? ⟨g,k*6+5,none⟩=some (.slice xq xj xd)) w3:=⟨z.cell d.1 Wz,z.cell d.2.1 Wz,z.cell d.2.2.1 Wz,z.cell d.2.2.2.1 Wz,z.cell d.2.2.2.2.1 Wz,z.cell d.2.2.2.2.2 Wz⟩;have Gi:Hid (wr.heap.size≤WD.heap.size∧WD.heap.size≤w3.heap.size):=qI ⟨Gb.o.size,z.size⟩;clear G z;refine L _ _ (.inr aa) ?_;clear L K;try simp only [XI]
      clear d;have d:=aa;clear aa;refine qO 10 B rfl Wr (fun K L=>?_);go_simp;refine L _ _ (.inr d) ?_;clear L K;try simp only [XI]
      refine qO 11 B rfl Wr (fun K L=>?_);go_simp;refine L _ _ (.inr d) ?_;clear L K;try simp only [XI]
      have u:c3.length=5:=Gg.o.len;have aq:k*6+1+c3.length≤v.m.length*6:=by rw [u];omega
      obtain⟨⟨ys,ag,-,aJ⟩,an,ak⟩:=row_cells (g:=g) (o:=k*6+1) (c:=c3) (zk C.o.row Gh.o Wz) rfl aq;have aS:=pair_set aO.o ae u aJ;subst aS;have Jc:=qI ag;have Gj:=qI ak;clear ag ak aJ aq;refine qO 12 B rfl Wr (fun K L=>?_);refine wp_store_mid 25 (.tmp 42) (.tmp 40) rfl g (k*6+1) c3.toArray rfl rfl (by rw [List.size_toArray];exact an) (by rw [List.size_toArray,u];kernel_rfl) (all_oneCell_toArray Gg.o.one) ?_;refine L _ _ (.inl rfl) ?_;clear L K;try simp only [XI]
      refine zz B Wr ?_ _;subst hR;try clear t B O
      clear an d u;go_wp2;case roundEnd=>
       have aV:=Gd.o;have aH:=Gq.o;have bb:=Gs.o;have aP:=Gr.o.size;have aR:=Gi.o
       refine⟨⟨k+1,ls.set k (ls[k].1,c3),by go_num,Ws,{
        row:=Jc.o
        all:=?_
        kept:=?_ }⟩,by simp [intOf];omega⟩
       ·rw [← take_set (fun p:ByteArray×V n=>(p.1,zI n p.2)) id v.m k I];refine zM.set (C.o.all.mono fun c y _ r=>⟨r.1,r.2.move ((Gh.o.mono Wz).trans' Gj.o) ?ga⟩) k ⟨Jf.o,Gg.o.move Gj.o ?gb⟩;case ga=>intro i j ⟨H,h2,h3⟩;exact⟨by intro q;simp at q;subst q;exact h3 rfl,H,h2,h3⟩
        case gb=>
         intro i j H;refine⟨by intro q;simp at q;omega,Ws,?_,?_⟩;·intro q;have:=D.o i (Option.mem_toList.2 q);omega
         ·intro q;simp [Value.ownBlock] at q;omega
       ·exact (C.o.kept.then Gh.o).trans Gj.o (by intro i j;simp at j;subst j;exact .inl (by simp [Value.ownBlock]))
     ·obtain rfl:k=v.m.length:=by omega
      obtain⟨aF,aG,au⟩:=pcs_of C.o.all;have CS:=qI (sortAny (ms:=aF) (by rw [← au];exact C.o.row) Ws);have Jt:=qI aG;have ah:=Gt.o.kept C.o.kept (by intro q;have:=A.o _ (XD q);omega);have Jg:=qI ah;have c4:=ah.c4;clear aG au ah;go_wp2_with fail;refine CS.o.mono ?_;rintro e w5 ⟨rfl,ds,aI,aC,ai,a3⟩;have Ju:=qI aI;have Jv:=qI aC;have Jw:=qI ai;have Gu:=qI a3;clear aI aC ai a3 c4;obtain⟨c0,c1,c2,c3,c4⟩:=Jg.o.kept Gu.o (by intro q;have:=A.o _ (XD q);omega);have Jm:Hid (zb ((Value.slice Y v.l.length N).ownBlock.toList++(Value.slice J v.m.length cm).ownBlock.toList) M w5):=qI (((Jd.o.mono (fun i j=>List.mem_append_left _ j)).trans' (C.o.kept.mono (fun i j=>List.mem_append_right _ j))).trans' (Gu.o.mono (fun i j=>List.mem_append_right _ j)));have F:w5.heap[w.heap.size+1]? = some (.cells #[.int .i64 0,.int .i64 0,.string ⟨#[]⟩,.slice none 0 0,.slice none 0 0] 25 (0,0)):=Jm.o.heap (Gf.o.heap Jo.o Wz) (by
       intro q;have hz:=Gd.o;rcases List.mem_append.1 q with q | q;·have:=D.o _ q;omega
       ·have:=A.o _ (XD q);omega)
      have Jx:=qI F;have r0:=za (o:=0) (v:=.int .i64 0) F rfl;have r1:=za (o:=1) (v:=.int .i64 0) F rfl;have r2:=za (o:=2) (v:=.string ⟨#[]⟩) F rfl;have r3:=za (o:=3) (v:=.slice none 0 0) F rfl;have r4:=za (o:=4) (v:=.slice none 0 0) F rfl;have W:=zh (o:=0) F;have X:=zh (o:=1) F;have P:=zh (o:=2) F;have Q:=zh (o:=3) F;have U:=zh (o:=4) F;clear F;go_wp2_with fail;have ad:=zd (v:=.slice J v.m.length cm) (i:=4) (zd (v:=.slice Y v.l.length N) (i:=3) (zd (v:=.string v.s) (i:=2) (zd (v:=.int .i64 v.num) (i:=1) (zd (v:=.int .i64 v.kind) (i:=0) Jx.o rfl) rfl) rfl) rfl) rfl;have KF:zb [w.heap.size+1] w5 (((((w5.setCell ⟨w.heap.size+1,0,none⟩ (.int .i64 v.kind)).setCell ⟨w.heap.size+1,1,none⟩ (.int .i64 v.num)).setCell ⟨w.heap.size+1,2,none⟩ (.string v.s)).setCell ⟨w.heap.size+1,3,none⟩ (.slice Y v.l.length N)).setCell ⟨w.heap.size+1,4,none⟩ (.slice J v.m.length cm)):=
       ((((Wd.setCell (p:=⟨w.heap.size+1,0,none⟩) (.inl Wz) _).setCell (p:=⟨w.heap.size+1,1,none⟩) (.inl Wz) _).setCell (p:=⟨w.heap.size+1,2,none⟩) (.inl Wz) _).setCell (p:=⟨w.heap.size+1,3,none⟩) (.inl Wz) _).setCell (p:=⟨w.heap.size+1,4,none⟩) (.inl Wz) _
      have x0:=za (o:=0) (v:=.int .i64 v.kind) ad rfl;have x1:=za (o:=1) (v:=.int .i64 v.num) ad rfl;have x2:=za (o:=2) (v:=.string v.s) ad rfl;have x3:=za (o:=3) (v:=.slice Y v.l.length N) ad rfl;have x4:=za (o:=4) (v:=.slice J v.m.length cm) ad rfl;clear ad c0 c1 c2 c3 c4 r0 r1 r2 r3 r4 W X P Q U;revert KF x0 x1 x2 x3 x4;generalize ((((w5.setCell ⟨w.heap.size+1,0,none⟩ (.int .i64 v.kind)).setCell ⟨w.heap.size+1,1,none⟩ (.int .i64 v.num)).setCell ⟨w.heap.size+1,2,none⟩ (.string v.s)).setCell ⟨w.heap.size+1,3,none⟩ (.slice Y v.l.length N)).setCell ⟨w.heap.size+1,4,none⟩ (.slice J v.m.length cm)=WF;intro KF x0 x1 x2 x3 x4;have ba:=Gd.o;have aY:=Gf.o.size;have aH:=Gm.o.size;have bd:=Gs.o;have aX:=C.o.kept.size;have a0:∀ i,(Value.slice J v.m.length cm).ownBlock=some i→(Value.slice Y v.l.length N).ownBlock≠some i:=fun i j q=>by have H:=(A.o i j).2.2;have h2:=(D.o i (Option.mem_toList.2 q)).2.2;rw [H] at h2;exact absurd h2 Wo
      have a2:∀ i,W0.heap.size≤i→(Value.slice J v.m.length cm).ownBlock≠some i→i ∉ (Value.slice J v.m.length cm).ownBlock.toList++[w.heap.size+1]:=fun i H h2 q=>by
       rcases List.mem_append.1 q with q | q;·exact h2 (XD q)
       ·simp at q;omega
      have a5:zb ((Value.slice J v.m.length cm).ownBlock.toList++[w.heap.size+1]) wr WF:=(Gu.o.mono (fun i j=>List.mem_append_left _ j)).trans' (KF.mono (fun i j=>List.mem_append_right _ j));have a9:zb ((Value.slice J v.m.length cm).ownBlock.toList++[w.heap.size+1]) WL WF:=(C.o.kept.mono (fun i j=>List.mem_append_left _ j)).trans' a5;have a6:zM (bh (Rep n (fun g=>W0.heap.size≤g∧(Value.slice Y v.l.length N).ownBlock≠some g∧(Value.slice J v.m.length cm).ownBlock≠some g) wr)) (aF.map (fun x=>(x.key,x.cs))) (v.m.map (qj (zI n))):=by have H:=C.o.all;rw [List.take_length,List.drop_length,List.map_nil,List.append_nil,Jt.o] at H;exact H
      have aL:=sorted_pairs a6 Ju.o Jv.o (by rw [List.map_map];exact Jn.o);have aZ:(ds.map (fun x=>(x.key,x.cs))).length=v.m.length:=by rw [aL.1,List.length_mergeSort,List.length_map]
      have aW:zZ (ds.map (fun x=>(x.key,x.cs)))=ds.flatMap PC.enc:=by unfold zZ;rw [List.flatMap_map];rfl
      have ab:xU (n+1) w.heap.size WF [.int .i64 v.kind,.int .i64 v.num,.string v.s,.slice Y v.l.length N,.slice J v.m.length cm] (zI (n+1) v):=by
       rw [bg];refine⟨_,_,aT,ds.map (fun x=>(x.key,x.cs)),rfl,?H,?h2,?h3,?h4,Jl.o.1,Jl.o.2⟩;case H=>simp only [List.length_map];exact qi (zk Gc.o.row a9 (fun i j=>a2 i ((D.o i (Option.mem_toList.2 j)).1) (fun q=>a0 i q j))) (fun i j=>by have:=(D.o i (Option.mem_toList.2 j)).1;omega)
       case h2=>have H:=Gc.o.all;rw [List.take_length,List.drop_length,List.map_nil,List.append_nil] at H;exact H.mono fun _ _ _ r=>r.move a9 (fun i _ ⟨q1,q2,q3⟩=>⟨a2 i q1 q3,Ws,q2,q3⟩)
       case h3=>simp only [List.length_mergeSort,List.length_map];rw [aW];exact qi (zk Jw.o KF (fun i j q=>by have:=(A.o i j).1;simp at q;omega)) (fun i j=>by have:=(A.o i j).1;omega)
       case h4=>exact aL.mono fun _ _ _ r=>⟨r.1,r.2.move a5 (fun i _ ⟨q1,q2,q3⟩=>⟨a2 i q1 q3,Ws,q2,q3⟩)⟩
      have aQ:zb [] w WF:=((Jk.o.then Gf.o).trans Jm.o (fun i j=>by
       rcases List.mem_append.1 j with j | j;·have:=(D.o i j).1;exact .inr Ws
       ·have:=(A.o i (XD j)).1;exact .inr Ws)).trans KF (fun i j=>by simp at j;exact .inr Ws)
      exact bodyPost_ret (v:=.agg #[.int .i64 v.kind,.int .i64 v.num,.string v.s,.slice Y v.l.length N,.slice J v.m.length cm]) (by simp [results,results68,go_sem,x0,x1,x2,x3,x4]) rfl ⟨⟨_,rfl,ab⟩,aQ⟩
theorem Ze:∀ (n:Nat),vp n
 | 0=>fun v {_}{_}{_} h _ _=>h.elim
 | n+1=>zar (Ze n)
theorem QK:∀ (n:Nat) (v:V n) {S:Nat→Prop}{w:World}{cs:List Value},Rep n S w cs v→zP n v→zo n v=true→Calls prog 68 #[.agg cs.toArray] w fun e w'=>(∃ cs':List Value,e = .returned (.agg cs'.toArray)∧xU n w.heap.size w' cs' (zI n v))∧zb [] w w':=fun n=>Ze n
theorem zaj {b:Nat}{s:ByteArray}(d:w.heap[b]? = some (.cells #[.string s] 9 (0,0))){i:Nat}(a:i<s.size) : Calls prog 103 #[.int .i64 i,.pointer (some ⟨b,0,none⟩)] w fun e w'=>e = .returned (.int .i64 (Lib.indexByte kw (s.data.toList[i]'(by simpa using a))))∧w=w':=by
 have c0:=za (o:=0) (v:=.string s) d rfl;have h:(i:Int)<s.size:=Ws;have f:Hid (s.data.toList[i]'(by simpa using a)=s[i]'a):=qI rfl;rw [f.o];clear d f;go_enter func103,ntmps103;go_wp2_with (go_at_call 104;refine (ku _ _ _).mono ?_;rintro e w' ⟨rfl,rfl⟩);go_ret;refine⟨?_,rfl⟩;simp [kw]
theorem vd {T:ByteArray}(h:T≠⟨#[]⟩):T.toList.isEmpty=false∧(!T.toList.isEmpty)=true:=by
 have b:=(jS h).1;have e:(⟨#[]⟩:ByteArray).toList=[]:=by decide +kernel
 rw [e] at b;have h2:T.toList.isEmpty=false:=by
  cases h3:T.toList with
  | nil=>rw [h3] at b;cases b
  | cons a l=>rfl
 rw [h2];exact⟨rfl,rfl⟩
theorem Kg:∀ (j:Nat) b,(⟨#[48,49,50,51,52,53,54,55,56,57,97,98,99,100,101,102]⟩:ByteArray).data.toList[j]? = some b→b.toNat<128:=by
 intro j b h;have hm:b∈([48,49,50,51,52,53,54,55,56,57,97,98,99,100,101,102]:List UInt8):=List.mem_of_getElem? h;have a:([48,49,50,51,52,53,54,55,56,57,97,98,99,100,101,102]:List UInt8).all (fun b=>decide (b.toNat<128))=true:=Wo;simpa using List.all_eq_true.1 a b hm
theorem hex_join (x y:Nat)(a:x<16)(b:y<16):Value.int .u8 (bits .or .i64 ((x:Int)*16) (y:Int)%256)=bv (UInt8.ofNat (x*16+y)):=by
 rw [bits_join .i64 32 Wo (fun n d e=>by rw [IntKind.wrap_i64];omega) 4 _ _ Ws Ws Ws Ws Ws Ws];unfold bv;congr 1
theorem unhex_no (s:ByteArray)(u:s.size≤140737488355328)(h:s.size%2=1∨s.data.toList.all yW=false)(w:World) : zJ w 58 #[.string s] (.tuple #[.slice none 0 0,.int .i64 10]):=by
 obtain⟨j,d⟩:=XE (w.alloc (.cells #[.string s] 9));have m:Hid (zb [] w j):=qI (kA1 d.o);have p:Hid (j.heap[w.heap.size]? = some (.cells #[.string s] 9 (0,0))):=qI (by rw [d.o];exact ze rfl);have c0:=za (o:=0) (v:=.string s) p.o rfl;have r:=qI h;have t:(s.size:Int)≤140737488355328:=Ws;clear h;by_cases i:s.size%2=1
 ·have q:((s.size:Int).tmod 2)=1:=by rw [Int.tmod_eq_emod_of_nonneg Ws];omega
  clear i;go_enter func58,ntmps58;go_wp2_with fail;rw [← d.o];go_ret2;exact⟨rfl,m.o⟩
 ·have q:((s.size:Int).tmod 2)=0:=by rw [Int.tmod_eq_emod_of_nonneg Ws];omega
  have a:zx (Lib.trimS s.data.toList kw)≠⟨#[]⟩:=fun e=>by
   have f:Lib.trimS s.data.toList kw=[]:=by rw [← zK (Lib.trimS _ _),e]
   rw [trimS_nil] at f;have h2:s.data.toList.all (kw.contains ·)=s.data.toList.all yW:=by congr 1;funext c;exact zaK c
   rw [h2] at f;rcases r.o with h | h
   ·exact i h
   ·rw [h] at f;cases f
  have b:=qI (libTrim s ⟨#[48,49,50,51,52,53,54,55,56,57,97,98,99,100,101,102]⟩ j Ws Wo Kg);rw [show (⟨#[48,49,50,51,52,53,54,55,56,57,97,98,99,100,101,102]⟩:ByteArray).data.toList=kw from rfl] at b;obtain⟨n,l⟩:=vd a;clear i a;revert b n l;generalize zx (Lib.trimS s.data.toList kw)=T;intro b n l;go_enter func58,ntmps58;go_wp2_with fail;rw [← d.o];refine b.o.mono ?_;rintro e w2 ⟨rfl,k⟩;go_wp2;go_ret2;exact⟨rfl,m.o.then k⟩
theorem unhex_yes (s:ByteArray)(hs:s.size≤140737488355328)(R:s.size%2=0)(L:s.data.toList.all yW=true)(w:World) : Calls prog 58 #[.string s] w fun e w'=>(∃ a c,e = .returned (.tuple #[.slice a (xh s.data.toList).length c,.int .i64 0])∧w'.ownsRow w.heap.size 5 1 (.slice a (xh s.data.toList).length c) (xh s.data.toList).length ((xh s.data.toList).map bv))∧zb [] w w':=by
 obtain⟨l,C⟩:=XE (w.alloc (.cells #[.string s] 9));have Gf:Hid (zb [] w l):=qI (kA1 C.o);have Jy:Hid (l.heap.size=w.heap.size+1):=qI (by rw [C.o];simp);have Gw:Hid (l.heap[w.heap.size]? = some (.cells #[.string s] 9 (0,0))):=qI (by rw [C.o];exact ze rfl);have c0:=za (o:=0) (v:=.string s) Gw.o rfl;have I:Hid (s.data.toList.length=s.size):=qI Wz;have U:Hid (∀ i (h:i<s.data.toList.length),yW s.data.toList[i]=true):=qI (fun i h=>List.all_eq_true.1 L _ (List.getElem_mem h));have ab:(s.size:Int)≤140737488355328:=Ws;have ft:((s.size:Int).tmod 2)=0:=by rw [Int.tmod_eq_emod_of_nonneg Ws];omega
 have f:Lib.trimS s.data.toList kw=[]:=by rw [trimS_nil,← L];congr 1;funext c;exact zaK c
 have N:=qI (libTrim s ⟨#[48,49,50,51,52,53,54,55,56,57,97,98,99,100,101,102]⟩ l Ws Wo Kg);rw [show (⟨#[48,49,50,51,52,53,54,55,56,57,97,98,99,100,101,102]⟩:ByteArray).data.toList=kw from rfl,f,show zx []=⟨#[]⟩ from rfl] at N;have HP:=qI (ZE s.data.toList);have Jz:=qI (YY s.data.toList);have Q:=qI R;clear f L R;go_enter func58,ntmps58;go_wp2_with fail;rw [← C.o];refine N.o.mono ?_;rintro e w2 ⟨rfl,t⟩;have Gm:=qI t;clear t c0;go_wp2_with fail;go_loopw [5,6] (fun out i wr=>∃ (k:Nat) (a:Option Addr) (c:Nat),i = .int .i64 (2*k:Nat)∧2*k≤s.size∧out = .slice a k c∧wr.ownsRow l.heap.size 5 1 (.slice a k c) k (((xh s.data.toList).take k).map bv)∧zb [] l wr) (fun _ i _=>s.size-(intOf i).toNat);case atStart=>exact⟨0,none,0,rfl,XB,rfl,World.ownsRow_nil _ _ _ _,Gm.o⟩
 case round=>
  obtain⟨k,a,c,rfl,hk,rfl,d,z⟩:=hrel;have J:=qI d;have A:=qI z;clear d z;have F:=A.o.heap Gw.o Wz;have P:=qI F;have c0:=za (o:=0) (v:=.string s) F rfl;clear F;by_cases E:2*k<s.size
  ·have h2:2*k+1<s.size:=XC Q.o;have r:2*k<s.data.toList.length:=by rw [I.o];omega
   have j:2*k+1<s.data.toList.length:=by rw [I.o];omega
   obtain⟨i1,W,i3⟩:=xv _ (U.o _ r);obtain⟨O,X,j3⟩:=xv _ (U.o _ j);obtain⟨Y,p2⟩:=Jz.o k j;have B:=qI (zaj P.o E);have D:=qI (zaj P.o h2);rw [i1] at B;rw [O] at D;have M:Hid ((xh s.data.toList).take (k+1)=(xh s.data.toList).take k++[UInt8.ofNat (hv s.data.toList[2*k]*16+hv s.data.toList[2*k+1])]):=qI (by rw [List.take_succ_eq_append_getElem Y,p2]);have u:(2:Int)*k<s.size:=Ws;have Ma:Hid (2*k+1<s.size):=qI h2;clear i1 i3 O j3 Y p2;revert B D M W X;generalize hv s.data.toList[2*k]=x;generalize hv s.data.toList[2*k+1]=y;intro W X B D M;clear r j;have ad:(x:Int)<16:=Ws;have aa:(y:Int)<16:=Ws;have Z:((2*k:Nat):Int)=2*(k:Int):=Ws;go_wp2_with fail;rw [← Z];refine B.o.mono ?_;rintro e w3 ⟨rfl,rfl⟩;have H:((2*k+1:Nat):Int)=2*(k:Int)+1:=Ws;go_wp2_with fail;rw [← H];refine D.o.mono ?_;rintro e w4 ⟨rfl,rfl⟩;go_wp2_with (at_builtin;refine zG tyByte (v:=.slice a k c) (n:=k) (zk J.o ((zb.refl [] wr).alloc _) Wz) (ZV wr _ _ _ rfl) (by simp [Value.oneCell']) (by simp only [maxLen];omega) Ws (by have:=A.o.size;simp;omega) rfl _ _ rfl rfl rfl ?_;intro v2 w5 b q _ K;obtain⟨a5,c5,rfl,-,-⟩:=(Slc.of_row b).form;have Jh:=qI b;have Gu:=qI q;clear b q K);case roundEnd=>refine⟨⟨k+1,_,_,congrArg (Value.int .i64) Ws,by have:=Ma.o;omega,rfl,?_,(A.o.alloc _).trans Gu.o (fun i hi=>.inr (J.o.lt i (XD hi)).1)⟩,by simp [intOf];omega⟩;have p:=Jh.o;rw [hex_join x y Ws Ws] at p;rw [M.o,List.map_append];exact p
  ·have G:Hid ((xh s.data.toList).take k=xh s.data.toList∧k=(xh s.data.toList).length):=qI (by
    have h1:=HP.o;have h2:=I.o;have h3:=Q.o;exact⟨List.take_of_length_le Ws,Ws⟩)
   have u:(s.size:Int)≤2*k:=Ws;have Z:((2*k:Nat):Int)=2*(k:Int):=Ws;go_wp2;go_ret2;have p:=J.o;rw [G.o.1,G.o.2] at p;refine⟨⟨a,c,congrArg (fun m:Nat=>Ending.returned (Value.tuple #[.slice a m c,.int .i64 0])) G.o.2,qi p (fun g hg=>by have:=(p.lt g hg).1;have:=Jy.o;omega)⟩,Gf.o.then A.o⟩
end Go.Proofs.YtjccecajigmfkaaGreatDoor

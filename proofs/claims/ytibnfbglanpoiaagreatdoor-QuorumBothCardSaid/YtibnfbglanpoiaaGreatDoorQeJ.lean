/- Parts of one proof, merged: XKQ XKT. -/
import Derived.Test.YtibnfbglanpoiaaGreatDoorQeI
set_option linter.all false
set_option maxHeartbeats 12800000
set_option maxRecDepth 10000
namespace Go.Proofs.YtibnfbglanpoiaaGreatDoor
open Go.Proofs.Tryz
open Go.RowKit
structure SortL {n:Nat}(B:Nat) (W2:World) (v:VS (V n)) (vl vm:Value) (k:Nat) (wr:World) (ls:List (List Value)):Prop where
 row:wr.ownsRow B 25 5 vl v.l.length ls.flatten
 all:zH (Rep n (fun g=>B≤g∧vl.ownBlock≠some g∧vm.ownBlock≠some g) wr) ls ((v.l.take k).map (zy n)++(v.l.drop k).map id)
 kept:zb vl.ownBlock.toList W2 wr
structure SortM {n:Nat}(B:Nat) (W2:World) (v:VS (V n)) (vl vm:Value) (k:Nat) (wr:World) (ms:List (ByteArray×List Value)):Prop where
 row:wr.ownsRow B 132 6 vm v.m.length (yk ms)
 all:zH (vS (Rep n (fun g=>B≤g∧vl.ownBlock≠some g∧vm.ownBlock≠some g) wr)) ms ((v.m.take k).map (fun p=>(p.1,zy n p.2))++(v.m.drop k).map id)
 kept:zb vm.ownBlock.toList W2 wr
theorem Rep.conv {n:Nat}{S:Nat→Prop}{w:World}{cs:List Value}{v:V n}(h:Rep n S w cs v):∃ k m s p i c q j d,cs=[.int .i64 k,.int .i64 m,.string s,.slice p i c,.slice q j d]:=by
 obtain⟨k,m,s,a,b,rfl⟩:=h.five
 obtain⟨p,i,c,q,j,d,rfl,rfl⟩:=h.sl
 exact⟨k,m,s,p,i,c,q,j,d,rfl⟩
theorem sortAny {w:World}{B n cap:Nat}{a:Option Addr}{ms:List PC}(hrow:w.ownsRow B 132 6 (.slice a n cap) n (ms.flatMap PC.enc)) (h63:n≤1000000) :
  Calls Tryz.prog 207 #[.slice a n cap,.func (.func 208) #[] #[]] w fun e w'=>
   e = .returned (.tuple #[])∧∃ ds:List PC,ds.Perm ms∧ds.Pairwise (fun x y=>ltB y.key x.key=false)∧w'.ownsRow B 132 6 (.slice a n cap) n (ds.flatMap PC.enc)∧zb (Value.slice a n cap).ownBlock.toList w w':=by
 have hl:ms.length=n:=by have:=hrow.1;rw [YR] at this;omega
 cases a with
 | none=>
  have h0:n=0∧cap=0:=by
   rcases hrow.2 with ⟨h,h1⟩ | ⟨g,cap',cur,hv,_⟩
   ·simp only [Value.slice.injEq] at h;exact⟨h.2.1,h.2.2⟩
   ·simp only [Value.slice.injEq] at hv;cases hv.1
  obtain⟨rfl,rfl⟩:=h0
  have:ms=[]:=List.eq_nil_of_length_eq_zero hl
  subst this
  exact (AnyF.slices_SortFunc_none Tryz.shSort none 0 _ w).mono fun e w' ⟨h1,h2⟩=>⟨h1,[],List.Perm.refl _,List.Pairwise.nil,by rw [h2];exact hrow,by rw [h2];exact Wd⟩
 | some ad=>
  have had:∃ g,ad=⟨g,0,none⟩:=by
   rcases hrow.2 with ⟨h,h1⟩ | ⟨g,cap',cur,hv,_⟩
   ·simp only [Value.slice.injEq] at h;cases h.1
   ·simp only [Value.slice.injEq,Option.some.injEq] at hv;exact⟨g,hv.1⟩
  obtain⟨g,rfl⟩:=had
  exact (sortPairs_any hrow hl h63).mono fun e w' ⟨h1,ds,h2,h3,h4,h5⟩=>⟨h1,ds,h2,h3,h4,by simpa [Value.ownBlock] using h5⟩
theorem sorted_pairs {n:Nat}{R:List Value→V n→Prop}{ds ms:List PC}{xs:List (ByteArray×V n)}(h:zH (vS R) (ms.map (fun x=>(x.key,x.cs))) xs) (hp:ds.Perm ms) (hs:ds.Pairwise (fun x y=>ltB y.key x.key=false)) (hn:(xs.map (fun p=>p.1)).Nodup) :
  zH (vS R) (ds.map (fun x=>(x.key,x.cs))) (xs.mergeSort leK):=by
 obtain⟨ys,h1,h2⟩:=h.perm (hp.map _)
 have hkeys:∀ i (hi:i<ds.length) (hi':i<ys.length),ys[i].1=ds[i].key:=fun i hi hi'=>by
  have:=(h2.2 i _ ys[i] (List.getElem?_eq_getElem (by simpa using hi)) (List.getElem?_eq_getElem hi')).1
  simpa using this.symm
 have hlen:ds.length=ys.length:=by simpa using h2.1
 have hsrt:ys.Pairwise (fun x y=>leK x y=true):=by
  rw [List.pairwise_iff_getElem]
  intro i j hi hj hij
  have h3:=(List.pairwise_iff_getElem.1 hs) i j Ws Ws hij
  unfold ltB at h3
  rw [decide_eq_false_iff_not,List.not_lt] at h3
  unfold leK
  rw [decide_eq_true_iff,hkeys i Ws hi,hkeys j Ws hj]
  exact h3
 have hnd:(ys.map (fun p=>p.1)).Nodup:=(h1.map (fun p:ByteArray×V n=>p.1)).nodup_iff.2 hn
 have he:ys=xs.mergeSort leK:=jj (h1.trans (List.mergeSort_perm xs leK).symm) hsrt (List.pairwise_mergeSort kF bg xs) hnd
 rw [← he]
 exact h2
def js (n : Nat) : Prop := ∀ (v : V n) {S : Nat → Prop} {w : World} {cs : List Value}, Rep n S w cs v → yA n v → zr n v = true →
    Calls Tryz.prog 189 #[.agg cs.toArray] w fun e w'=>(∃ cs':List Value,e = .returned (.agg cs'.toArray)∧jd n w.heap.size w' cs' (zy n v))∧zb [] w w'
theorem Kc {n:Nat}(known:js n):js (n+1):=fun (v:VS (V n)) {S}{w}{cs} h hs hrt=>by
  have Jk:=qI hs
  have Jl:=qI hrt
  have Jp:=qI (right_nodup hrt)
  have IH:=qI known
  have hlv:v.l.length≤20000:=by have:=hs.few;omega
  have hmv:v.m.length≤20000:=by have:=hs.few;omega
  obtain⟨kd,nm,st,a,ca,ea,b,cb,eb,rfl⟩:=h.conv
  obtain⟨W0,Gz⟩:∃ W0,Hid (W0=(w.alloc (.cells #[.int .i64 kd,.int .i64 nm,.string st,.slice a ca ea,.slice b cb eb] 25)).alloc (.cells #[.int .i64 0,.int .i64 0,.string ⟨#[]⟩,.slice none 0 0,.slice none 0 0] 25)):=⟨_,qI rfl⟩
  have Gi:Hid (W0.heap.size=w.heap.size+2):=qI (by rw [Gz.o];simp)
  have Jm:Hid (zb [] w W0):=qI (kA2 Gz.o)
  have Jq:Hid (W0.heap[w.heap.size+1]? = some (.cells #[.int .i64 0,.int .i64 0,.string ⟨#[]⟩,.slice none 0 0,.slice none 0 0] 25 (0,0))):=qI (by
   rw [Gz.o];exact zd Wz)
  have CC:=qI (clone_any (n+1) v (h.kept0 Jm.o) hs)
  clear h hs hrt
  go_enter func189,ntmps189
  go_wp2_with fail
  rw [← Gz.o]
  refine CC.o.mono ?_
  rintro e w1 ⟨⟨cs',rfl,hown⟩,hk1⟩
  have Jr:=qI hown.rep
  obtain⟨vl,vm,lcs,mcs,rfl,hrl,hal,hrm,ham,hwk,hwn⟩:=hown
  obtain⟨al,cl,rfl,-,-⟩:=(Slc.of_row hrl).form
  obtain⟨am,cm,rfl,-,-⟩:=(Slc.of_row hrm).form
  have Gq:=qI hrl
  have Js:=qI hal
  have Gp:=qI hrm
  have Jt:=qI ham
  have Jn:=qI (And.intro hwk hwn)
  have Gh:=qI hk1
  clear hrl hal hrm ham hwk hwn hk1 CC
  obtain⟨W2,Gr⟩:∃ W2,Hid (W2=w1.alloc (.cells #[.int .i64 v.kind,.int .i64 v.num,.string v.s,.slice al v.l.length cl,.slice am v.m.length cm] 25)):=⟨_,qI rfl⟩
  have Gb:Hid (zb [] w1 W2):=qI (kA1 Gr.o)
  have Gj:Hid (qq W2 w1.heap.size v.kind v.num v.s (.slice al v.l.length cl) (.slice am v.m.length cm)):=qI (by rw [Gr.o];exact xr _ _ _ _ _ _ _)
  have Gs:Hid (W2.heap.size=w1.heap.size+1):=qI (by rw [Gr.o];simp)
  obtain⟨c0,c1,c2,c3,c4⟩:=Gj.o
  rw [Gr.o] at c0 c1 c2 c3 c4
  go_wp2_with fail
  rw [← Gr.o]
  clear c0 c1 c2 c3 c4
  have Ju:Hid (SortL W0.heap.size W2 v (.slice al v.l.length cl) (.slice am v.m.length cm) 0 W2 lcs):=qI {
   row:=zo Gq.o Gb.o Wz
   all:=by simpa using Js.o.mono fun _ _ _ r=>r.kept0 Gb.o
   kept:=Wd }
  go_loopw [11] (fun i wr=>∃ (k:Nat) (ls:List (List Value)),i = .int .i64 k∧k≤v.l.length∧SortL W0.heap.size W2 v (.slice al v.l.length cl) (.slice am v.m.length cm) k wr ls) (fun i _=>v.l.length-(intOf i).toNat)
  case atStart=>exact⟨0,_,rfl,Nat.zero_le _,Ju.o⟩
  case round=>
   obtain⟨k,ls,rfl,hk,hsl⟩:=hrel
   have Ga:=qI hsl
   clear hsl
   by_cases hlt:k<v.l.length
   ·have hltI:(k:Int)<v.l.length:=by omega
    obtain⟨g,rfl,hgB,hgl⟩:∃ g,al=some ⟨g,0,none⟩∧W0.heap.size≤g∧g<w1.heap.size:=by
     rcases Gq.o.2 with ⟨_,h0⟩ | ⟨g,cap,cur,hv,r1,r2,_⟩
     ·omega
     ·simp only [Value.slice.injEq] at hv
      exact⟨g,hv.1,r1,lt_of_block r2⟩
    have hlsl:ls.length=v.l.length:=by rw [Ga.o.all.1];simp;omega
    have hk':k<ls.length:=Ws
    have hrep:=Ga.o.all.2 k ls[k] v.l[k] (List.getElem?_eq_getElem hk') (mixed_get (zy n) id v.l k hlt)
    obtain⟨xk,xm,xs,xp,xi,xc,xq,xj,xd,ex⟩:=hrep.conv
    obtain⟨g',o',cap',hsv,q0,q1,q2,q3,q4⟩:=(Slc.of_row Ga.o.row).at5 (fun c hc=>by obtain⟨y,_,r⟩:=Ga.o.all.mem_left hc;exact r.len) hk' ex
    simp only [Value.slice.injEq,Option.some.injEq,Addr.mk.injEq,and_true,true_and] at hsv
    obtain⟨⟨rfl,rfl⟩,-⟩:=hsv
    rw [ex] at hrep
    have Ja:=qI hrep
    have Gt:Hid (zb [g] W2 wr):=qI (by have:=Ga.o.kept;simpa [Value.ownBlock] using this)
    have hgne:g≠w1.heap.size:=Ws
    have y3:=(Gj.o.kept Gt.o (by simpa using Ne.symm hgne)).c3
    have Jb:=qI (Jk.o.kid (kZ (List.getElem_mem hlt)))
    have Jc:=qI (qR Jl.o (kZ (List.getElem_mem hlt)))
    clear hrep
    rw [Nat.zero_add] at q0 q1 q2 q3 q4
    go_wp2_with fail
    refine zv (n:=11) (fun w':World=>w'.cell? ⟨w1.heap.size,3,none⟩=some (.slice (some ⟨g,0,none⟩) v.l.length cl)∧w'.cell? ⟨g,k*5,none⟩=some (.int .i64 xk)∧w'.cell? ⟨g,k*5+1,none⟩=some (.int .i64 xm)∧w'.cell? ⟨g,k*5+2,none⟩=some (.string xs)∧w'.cell? ⟨g,k*5+3,none⟩=some (.slice xp xi xc)∧w'.cell? ⟨g,k*5+4,none⟩=some (.slice xq xj xd)) 10 Wr Wr ?_
    change zX _ _ _ _ _ _ _ _ _ wr.drew
    have hSS:(fun w':World=>w'.cell? ⟨w1.heap.size,3,none⟩=some (.slice (some ⟨g,0,none⟩) v.l.length cl)∧w'.cell? ⟨g,k*5,none⟩=some (.int .i64 xk)∧w'.cell? ⟨g,k*5+1,none⟩=some (.int .i64 xm)∧w'.cell? ⟨g,k*5+2,none⟩=some (.string xs)∧w'.cell? ⟨g,k*5+3,none⟩=some (.slice xp xi xc)∧w'.cell? ⟨g,k*5+4,none⟩=some (.slice xq xj xd)) wr.drew:=⟨y3,q0,q1,q2,q3,q4⟩
    have Gd:Hid (zb [] wr wr.drew):=qI Wd.drew
    clear y3 q0 q1 q2 q3 q4
    revert hSS Gd
    generalize wr.drew=WD
    intro hSS Gd
    refine zL ?_
    intro O R hO hR
    have hQp:jC R:=by subst hR;exact fun _ _ _ _ _ h=>h
    refine qT 0 ?_ hO rfl rfl Wr hQp (fun w hSw=>?_) hSS ?_
    rotate_left
    ·obtain⟨s0,s1,s2,s3,s4,s5⟩:=hSw;exact zi
    try simp only [zA,zN,zB,zC,zD]
    refine qT 1 ?_ hO rfl rfl Wr hQp (fun w hSw=>?_) hSS ?_
    rotate_left
    ·obtain⟨s0,s1,s2,s3,s4,s5⟩:=hSw;exact zi
    try simp only [zA,zN,zB,zC,zD]
    refine qT 2 ?_ hO rfl rfl Wr hQp (fun w hSw=>?_) hSS ?_
    rotate_left
    ·obtain⟨s0,s1,s2,s3,s4,s5⟩:=hSw;exact zi
    try simp only [zA,zN,zB,zC,zD]
    refine qT 3 ?_ hO rfl rfl Wr hQp (fun w hSw=>?_) hSS ?_
    rotate_left
    ·obtain⟨s0,s1,s2,s3,s4,s5⟩:=hSw;exact zi
    try simp only [zA,zN,zB,zC,zD]
    refine qT 4 ?_ hO rfl rfl Wr hQp (fun w hSw=>?_) hSS ?_
    rotate_left
    ·obtain⟨s0,s1,s2,s3,s4,s5⟩:=hSw;exact zi
    try simp only [zA,zN,zB,zC,zD]
    refine qT 5 ?_ hO rfl rfl Wr hQp (fun w hSw=>?_) hSS ?_
    rotate_left
    ·obtain⟨s0,s1,s2,s3,s4,s5⟩:=hSw;exact zi
    try simp only [zA,zN,zB,zC,zD]
    refine qT 6 ?_ hO rfl rfl Wr hQp (fun w hSw=>?_) hSS ?_
    rotate_left
    ·obtain⟨s0,s1,s2,s3,s4,s5⟩:=hSw;exact zi
    try simp only [zA,zN,zB,zC,zD]
    refine qT 7 ?_ hO rfl rfl Wr hQp (fun w hSw=>?_) hSS ?_
    rotate_left
    ·obtain⟨s0,s1,s2,s3,s4,s5⟩:=hSw;exact zi
    try simp only [zA,zN,zB,zC,zD]
    refine qO 8 hO rfl Wr (fun K hK=>?_)
    go_simp
    refine Calls.mono (IH.o v.l[k] (Ja.o.kept0 Gd.o) Jb.o Jc.o) ?_
    rintro e w3 ⟨⟨c3,rfl,hown3⟩,hk3⟩
    have Gk:=qI hown3.rep
    have Ge:=qI (Gd.o.then hk3)
    have hS3:(fun w':World=>w'.cell? ⟨w1.heap.size,3,none⟩=some (.slice (some ⟨g,0,none⟩) v.l.length cl)∧w'.cell? ⟨g,k*5,none⟩=some (.int .i64 xk)∧w'.cell? ⟨g,k*5+1,none⟩=some (.int .i64 xm)∧w'.cell? ⟨g,k*5+2,none⟩=some (.string xs)∧w'.cell? ⟨g,k*5+3,none⟩=some (.slice xp xi xc)∧w'.cell? ⟨g,k*5+4,none⟩=some (.slice xq xj xd)) w3:=⟨hk3.cell hSS.1 Wz,hk3.cell hSS.2.1 Wz,hk3.cell hSS.2.2.1 Wz,hk3.cell hSS.2.2.2.1 Wz,hk3.cell hSS.2.2.2.2.1 Wz,hk3.cell hSS.2.2.2.2.2 Wz⟩
    have Gl:Hid (wr.heap.size≤WD.heap.size∧WD.heap.size≤w3.heap.size):=qI ⟨Gd.o.size,hk3.size⟩
    clear hown3 hk3
    refine hK _ _ (.inr hS3) ?_
    clear hK K
    try simp only [zA,zN,zB,zC,zD]
    clear hSS
    have hSS:=hS3
    clear hS3
    refine qO 9 hO rfl Wr (fun K hK=>?_)
    go_simp
    refine hK _ _ (.inr hSS) ?_
    clear hK K
    try simp only [zA,zN,zB,zC,zD]
    have hlen3:c3.length=5:=Gk.o.len
    have hls5:∀ x,x∈ls→x.length=5:=fun c hc=>by obtain⟨y,_,r⟩:=Ga.o.all.mem_left hc;exact r.len
    obtain⟨hro,hth,hkg⟩:=row_stored (i:=k) (g:=g) (c:=c3) (zo Ga.o.row Ge.o Wz) hls5 rfl hlsl hlt hlen3
    have Jd:=qI hro
    have Gm:=qI hkg
    clear hro hkg hls5
    refine qO 10 hO rfl Wr (fun K hK=>?_)
    refine wp_store_mid 25 (.tmp 23) (.tmp 22) rfl g (k*5) c3.toArray rfl rfl (by rw [List.size_toArray,hlen3];exact hth) (by rw [List.size_toArray,hlen3];kernel_rfl) (all_oneCell_toArray Gk.o.one) ?_
    refine hK _ _ (.inl rfl) ?_
    clear hK K
    try simp only [zA,zN,zB,zC,zD]
    refine zF hO Wr ?_ _
    subst hR
    try clear hQp hO O
    clear hth hSS hlen3
    go_wp2_with fail
    case roundEnd=>
     have hzW:=Gi.o
     have hz2:=Gs.o
     have hzx:=Gt.o.size
     have hzd:=Gl.o
     refine⟨⟨k+1,ls.set k c3,by go_num,Ws,{
      row:=Jd.o
      all:=?_
      kept:=?_ }⟩,by simp [intOf];omega⟩
     ·rw [← take_set (zy n) id v.l k hlt]
      refine zH.set (Ga.o.all.mono fun c y _ r=>r.move ((Ge.o.mono Wz).trans' Gm.o) ?_) k (Gk.o.move Gm.o ?_)
      ·intro i hi ⟨h1,h2,h3⟩
       exact⟨by intro hx;simp at hx;subst hx;exact h2 rfl,h1,h2,h3⟩
      ·intro i hi h1
       have hmlt:=Gp.o.lt
       refine⟨by intro hx;simp at hx;omega,Ws,?_,?_⟩
       ·intro hx;simp [Value.ownBlock] at hx;omega
       ·intro hx;have:=(hmlt i hx).2;omega
     ·have h1:=(Ga.o.kept.then Ge.o).trans Gm.o (by intro i hi;simp at hi;subst hi;exact .inl (by simp [Value.ownBlock]))
      exact h1
   ·obtain rfl:k=v.l.length:=by omega
    obtain⟨WL,rfl⟩:∃ x,x=wr:=⟨_,rfl⟩
    obtain⟨lsF,rfl⟩:∃ x,x=ls:=⟨_,rfl⟩
    have Gf:=qI Ga.o
    have hblk:Hid (∀ i,i∈(Value.slice al v.l.length cl).ownBlock.toList→W0.heap.size≤i∧i<w1.heap.size∧kind w1 i=25+2):=qI fun i hi=>⟨(Gq.o.lt i (Option.mem_toList.1 hi)).1,(Gq.o.lt i (Option.mem_toList.1 hi)).2,yp Gq.o (Option.mem_toList.1 hi)⟩
    have hmblk:Hid (∀ i,(Value.slice am v.m.length cm).ownBlock=some i→W0.heap.size≤i∧i<w1.heap.size∧kind w1 i=132+2):=qI fun i hi=>⟨(Gp.o.lt i hi).1,(Gp.o.lt i hi).2,yp Gp.o hi⟩
    have Je:Hid (zb (Value.slice al v.l.length cl).ownBlock.toList w1 WL):=qI ((Gb.o.mono Wz).trans' Gf.o.kept)
    have Gu:Hid (W2.heap.size≤WL.heap.size):=qI Gf.o.kept.size
    have hb3l:=Gj.o.kept Gf.o.kept (by intro hx;have:=hblk.o _ hx;omega)
    have Gv:=qI hb3l
    have Jf:Hid (SortM W0.heap.size WL v (.slice al v.l.length cl) (.slice am v.m.length cm) 0 WL mcs):=qI {
     row:=zo Gp.o Je.o (fun i hi hx=>by have h1:=(hmblk.o i hi).2.2;have h2:=(hblk.o i hx).2.2;rw [h1] at h2;exact absurd h2 Wo)
     all:=by simpa using Jt.o.mono fun _ _ _ r=>⟨r.1,r.2.move Je.o (fun i hi ⟨h1,h2,h3⟩=>⟨fun hx=>h2 (Option.mem_toList.1 hx),h1,h2,h3⟩)⟩
     kept:=Wd }
    obtain⟨c0,c1,c2,c3,c4⟩:=hb3l
    clear Ga
    go_wp2_with fail
    clear c0 c1 c2 c3 c4
    go_loopw [28] (fun i wr=>∃ (k:Nat) (ms:List (ByteArray×List Value)),i = .int .i64 k∧k≤v.m.length∧SortM W0.heap.size WL v (.slice al v.l.length cl) (.slice am v.m.length cm) k wr ms) (fun i _=>v.m.length-(intOf i).toNat)
    case atStart=>exact⟨0,_,rfl,Nat.zero_le _,Jf.o⟩
    case round=>
     obtain⟨k,ls,rfl,hk,hsl⟩:=hrel
     have Ga:=qI hsl
     clear hsl
     by_cases hlt:k<v.m.length
     ·have hltI:(k:Int)<v.m.length:=by omega
      obtain⟨g,rfl,hgB,hgl⟩:∃ g,am=some ⟨g,0,none⟩∧W0.heap.size≤g∧g<w1.heap.size:=by
       rcases Gp.o.2 with ⟨_,h0⟩ | ⟨g,cap,cur,hv,r1,r2,_⟩
       ·omega
       ·simp only [Value.slice.injEq] at hv
        exact⟨g,hv.1,r1,lt_of_block r2⟩
      have hlsl:ls.length=v.m.length:=by rw [Ga.o.all.1];simp;omega
      have hk':k<ls.length:=Ws
      have hpr:=Ga.o.all.2 k ls[k] v.m[k] (List.getElem?_eq_getElem hk') (mixed_get (fun p:ByteArray×V n=>(p.1,zy n p.2)) id v.m k hlt)
      obtain⟨xk,xm,xs,xp,xi,xc,xq,xj,xd,ex⟩:=hpr.2.conv
      have h66:∀ c,c∈ls.map xg→c.length=6:=fun c hc=>by
       obtain⟨p,hp,rfl⟩:=List.mem_map.1 hc
       obtain⟨y,_,r⟩:=Ga.o.all.mem_left hp
       simp [xg,r.2.len]
      obtain⟨g',o',cap',hsv,-,q0,q1,q2,q3,q4⟩:=(Slc.of_row Ga.o.row).at6 h66 hk' ex
      simp only [Value.slice.injEq,Option.some.injEq,Addr.mk.injEq,and_true,true_and] at hsv
      obtain⟨⟨rfl,rfl⟩,-⟩:=hsv
      have hrep:=hpr.2
      rw [ex] at hrep
      have Ja:=qI hrep
      have Jg:=qI hpr.1
      have Gt:Hid (zb [g] WL wr):=qI (by have:=Ga.o.kept;simpa [Value.ownBlock] using this)
      have hgne:g≠w1.heap.size:=Ws
      have y3:=(Gv.o.kept Gt.o (by simpa using Ne.symm hgne)).c4
      have Jb:=qI (Jk.o.kid (k9 (List.getElem_mem hlt)))
      have Jc:=qI (qR Jl.o (k9 (List.getElem_mem hlt)))
      have H66:=qI h66
      clear hrep hpr h66
      rw [Nat.zero_add] at q0 q1 q2 q3 q4
      go_wp2_with fail
      refine zv (n:=13) (fun w':World=>w'.cell? ⟨w1.heap.size,4,none⟩=some (.slice (some ⟨g,0,none⟩) v.m.length cm)∧w'.cell? ⟨g,k*6+1,none⟩=some (.int .i64 xk)∧w'.cell? ⟨g,k*6+2,none⟩=some (.int .i64 xm)∧w'.cell? ⟨g,k*6+3,none⟩=some (.string xs)∧w'.cell? ⟨g,k*6+4,none⟩=some (.slice xp xi xc)∧w'.cell? ⟨g,k*6+5,none⟩=some (.slice xq xj xd)) 12 Wr Wr ?_
      change zX _ _ _ _ _ _ _ _ _ wr.drew
      have hSS:(fun w':World=>w'.cell? ⟨w1.heap.size,4,none⟩=some (.slice (some ⟨g,0,none⟩) v.m.length cm)∧w'.cell? ⟨g,k*6+1,none⟩=some (.int .i64 xk)∧w'.cell? ⟨g,k*6+2,none⟩=some (.int .i64 xm)∧w'.cell? ⟨g,k*6+3,none⟩=some (.string xs)∧w'.cell? ⟨g,k*6+4,none⟩=some (.slice xp xi xc)∧w'.cell? ⟨g,k*6+5,none⟩=some (.slice xq xj xd)) wr.drew:=⟨y3,q0,q1,q2,q3,q4⟩
      have Gd:Hid (zb [] wr wr.drew):=qI Wd.drew
      clear y3 q0 q1 q2 q3 q4
      revert hSS Gd
      generalize wr.drew=WD
      intro hSS Gd
      refine zL ?_
      intro O R hO hR
      have hQp:jC R:=by subst hR;exact fun _ _ _ _ _ h=>h
      refine qT 0 ?_ hO rfl rfl Wr hQp (fun w hSw=>?_) hSS ?_
      rotate_left
      ·obtain⟨s0,s1,s2,s3,s4,s5⟩:=hSw;exact zi
      try simp only [zA,zN,zB,zC,zD]
      refine qT 1 ?_ hO rfl rfl Wr hQp (fun w hSw=>?_) hSS ?_
      rotate_left
      ·obtain⟨s0,s1,s2,s3,s4,s5⟩:=hSw;exact zi
      try simp only [zA,zN,zB,zC,zD]
      refine qT 2 ?_ hO rfl rfl Wr hQp (fun w hSw=>?_) hSS ?_
      rotate_left
      ·obtain⟨s0,s1,s2,s3,s4,s5⟩:=hSw;exact zi
      try simp only [zA,zN,zB,zC,zD]
      refine qT 3 ?_ hO rfl rfl Wr hQp (fun w hSw=>?_) hSS ?_
      rotate_left
      ·obtain⟨s0,s1,s2,s3,s4,s5⟩:=hSw;exact zi
      try simp only [zA,zN,zB,zC,zD]
      refine qT 4 ?_ hO rfl rfl Wr hQp (fun w hSw=>?_) hSS ?_
      rotate_left
      ·obtain⟨s0,s1,s2,s3,s4,s5⟩:=hSw;exact zi
      try simp only [zA,zN,zB,zC,zD]
      refine qT 5 ?_ hO rfl rfl Wr hQp (fun w hSw=>?_) hSS ?_
      rotate_left
      ·obtain⟨s0,s1,s2,s3,s4,s5⟩:=hSw;exact zi
      try simp only [zA,zN,zB,zC,zD]
      refine qT 6 ?_ hO rfl rfl Wr hQp (fun w hSw=>?_) hSS ?_
      rotate_left
      ·obtain⟨s0,s1,s2,s3,s4,s5⟩:=hSw;exact zi
      try simp only [zA,zN,zB,zC,zD]
      refine qT 7 ?_ hO rfl rfl Wr hQp (fun w hSw=>?_) hSS ?_
      rotate_left
      ·obtain⟨s0,s1,s2,s3,s4,s5⟩:=hSw;exact zi
      try simp only [zA,zN,zB,zC,zD]
      refine qT 8 ?_ hO rfl rfl Wr hQp (fun w hSw=>?_) hSS ?_
      rotate_left
      ·obtain⟨s0,s1,s2,s3,s4,s5⟩:=hSw;exact zi
      try simp only [zA,zN,zB,zC,zD]
      refine qO 9 hO rfl Wr (fun K hK=>?_)
      go_simp
      refine Calls.mono (IH.o v.m[k].2 (Ja.o.kept0 Gd.o) Jb.o Jc.o) ?_
      rintro e w3 ⟨⟨c3,rfl,hown3⟩,hk3⟩
      have Gk:=qI hown3.rep
      have Ge:=qI (Gd.o.then hk3)
      have hS3:(fun w':World=>w'.cell? ⟨w1.heap.size,4,none⟩=some (.slice (some ⟨g,0,none⟩) v.m.length cm)∧w'.cell? ⟨g,k*6+1,none⟩=some (.int .i64 xk)∧w'.cell? ⟨g,k*6+2,none⟩=some (.int .i64 xm)∧w'.cell? ⟨g,k*6+3,none⟩=some (.string xs)∧w'.cell? ⟨g,k*6+4,none⟩=some (.slice xp xi xc)∧w'.cell? ⟨g,k*6+5,none⟩=some (.slice xq xj xd)) w3:=⟨hk3.cell hSS.1 Wz,hk3.cell hSS.2.1 Wz,hk3.cell hSS.2.2.1 Wz,hk3.cell hSS.2.2.2.1 Wz,hk3.cell hSS.2.2.2.2.1 Wz,hk3.cell hSS.2.2.2.2.2 Wz⟩
      have Gl:Hid (wr.heap.size≤WD.heap.size∧WD.heap.size≤w3.heap.size):=qI ⟨Gd.o.size,hk3.size⟩
      clear hown3 hk3
      refine hK _ _ (.inr hS3) ?_
      clear hK K
      try simp only [zA,zN,zB,zC,zD]
      clear hSS
      have hSS:=hS3
      clear hS3
      refine qO 10 hO rfl Wr (fun K hK=>?_)
      go_simp
      refine hK _ _ (.inr hSS) ?_
      clear hK K
      try simp only [zA,zN,zB,zC,zD]
      refine qO 11 hO rfl Wr (fun K hK=>?_)
      go_simp
      refine hK _ _ (.inr hSS) ?_
      clear hK K
      try simp only [zA,zN,zB,zC,zD]
      have hlen3:c3.length=5:=Gk.o.len
      have hbnd:k*6+1+c3.length≤v.m.length*6:=by rw [hlen3];omega
      obtain⟨⟨ys,hro,-,hys⟩,hth,hkg⟩:=row_cells (g:=g) (o:=k*6+1) (c:=c3) (zo Ga.o.row Ge.o Wz) rfl hbnd
      have hye:=pair_set H66.o hk' hlen3 hys
      subst hye
      have Jd:=qI hro
      have Gm:=qI hkg
      clear hro hkg hys hbnd
      refine qO 12 hO rfl Wr (fun K hK=>?_)
      refine wp_store_mid 25 (.tmp 42) (.tmp 40) rfl g (k*6+1) c3.toArray rfl rfl (by rw [List.size_toArray];exact hth) (by rw [List.size_toArray,hlen3];kernel_rfl) (all_oneCell_toArray Gk.o.one) ?_
      refine hK _ _ (.inl rfl) ?_
      clear hK K
      try simp only [zA,zN,zB,zC,zD]
      refine zF hO Wr ?_ _
      subst hR
      try clear hQp hO O
      clear hth hSS hlen3
      go_wp2_with fail
      case roundEnd=>
       have hzW:=Gi.o
       have hz2:=Gs.o
       have hzl:=Gu.o
       have hzx:=Gt.o.size
       have hzd:=Gl.o
       refine⟨⟨k+1,ls.set k (ls[k].1,c3),by go_num,Ws,{
        row:=Jd.o
        all:=?_
        kept:=?_ }⟩,by simp [intOf];omega⟩
       ·rw [← take_set (fun p:ByteArray×V n=>(p.1,zy n p.2)) id v.m k hlt]
        refine zH.set (Ga.o.all.mono fun c y _ r=>⟨r.1,r.2.move ((Ge.o.mono Wz).trans' Gm.o) ?ga⟩) k ⟨Jg.o,Gk.o.move Gm.o ?gb⟩
        case ga=>
         intro i hi ⟨h1,h2,h3⟩
         exact⟨by intro hx;simp at hx;subst hx;exact h3 rfl,h1,h2,h3⟩
        case gb=>
         intro i hi h1
         refine⟨by intro hx;simp at hx;omega,Ws,?_,?_⟩
         ·intro hx;have:=hblk.o i (Option.mem_toList.2 hx);omega
         ·intro hx;simp [Value.ownBlock] at hx;omega
       ·exact (Ga.o.kept.then Ge.o).trans Gm.o (by intro i hi;simp at hi;subst hi;exact .inl (by simp [Value.ownBlock]))
     ·obtain rfl:k=v.m.length:=by omega
      obtain⟨ds0,hls,henc⟩:=pcs_of Ga.o.all
      have CS:=qI (sortAny (ms:=ds0) (by rw [← henc];exact Ga.o.row) Ws)
      have Jv:=qI hls
      have hb3f:=Gv.o.kept Ga.o.kept (by intro hx;have:=hmblk.o _ (Option.mem_toList.1 hx);omega)
      have Jh:=qI hb3f
      have c4:=hb3f.c4
      clear hls henc hb3f
      go_wp2_with fail
      refine CS.o.mono ?_
      rintro e w5 ⟨rfl,ds,hdp,hds,hrow5,hk5⟩
      have Jw:=qI hdp
      have Jx:=qI hds
      have Jy:=qI hrow5
      have Ji:=qI hk5
      clear hdp hds hrow5 hk5 c4
      obtain⟨c0,c1,c2,c3,c4⟩:=Jh.o.kept Ji.o (by intro hx;have:=hmblk.o _ (Option.mem_toList.1 hx);omega)
      have Jo:Hid (zb ((Value.slice al v.l.length cl).ownBlock.toList++(Value.slice am v.m.length cm).ownBlock.toList) w1 w5):=qI (((Je.o.mono (fun i hi=>List.mem_append_left _ hi)).trans' (Ga.o.kept.mono (fun i hi=>List.mem_append_right _ hi))).trans' (Ji.o.mono (fun i hi=>List.mem_append_right _ hi)))
      have hbr:w5.heap[w.heap.size+1]? = some (.cells #[.int .i64 0,.int .i64 0,.string ⟨#[]⟩,.slice none 0 0,.slice none 0 0] 25 (0,0)):=Jo.o.heap (Gh.o.heap Jq.o Wz) (by
       intro hx
       have hz:=Gi.o
       rcases List.mem_append.1 hx with hx | hx
       ·have:=hblk.o _ hx;omega
       ·have:=hmblk.o _ (Option.mem_toList.1 hx);omega)
      have Jz:=qI hbr
      have r0:=za (o:=0) (v:=.int .i64 0) hbr rfl
      have r1:=za (o:=1) (v:=.int .i64 0) hbr rfl
      have r2:=za (o:=2) (v:=.string ⟨#[]⟩) hbr rfl
      have r3:=za (o:=3) (v:=.slice none 0 0) hbr rfl
      have r4:=za (o:=4) (v:=.slice none 0 0) hbr rfl
      have s0:=zh (o:=0) hbr
      have s1:=zh (o:=1) hbr
      have s2:=zh (o:=2) hbr
      have s3:=zh (o:=3) hbr
      have s4:=zh (o:=4) hbr
      clear hbr
      go_wp2_with fail
      have hbf:=zg (v:=.slice am v.m.length cm) (i:=4) (zg (v:=.slice al v.l.length cl) (i:=3) (zg (v:=.string v.s) (i:=2) (zg (v:=.int .i64 v.num) (i:=1) (zg (v:=.int .i64 v.kind) (i:=0) Jz.o rfl) rfl) rfl) rfl) rfl
      have KF:zb [w.heap.size+1] w5 (((((w5.setCell ⟨w.heap.size+1,0,none⟩ (.int .i64 v.kind)).setCell ⟨w.heap.size+1,1,none⟩ (.int .i64 v.num)).setCell ⟨w.heap.size+1,2,none⟩ (.string v.s)).setCell ⟨w.heap.size+1,3,none⟩ (.slice al v.l.length cl)).setCell ⟨w.heap.size+1,4,none⟩ (.slice am v.m.length cm)):=
       ((((Wd.setCell (p:=⟨w.heap.size+1,0,none⟩) (.inl Wz) _).setCell (p:=⟨w.heap.size+1,1,none⟩) (.inl Wz) _).setCell (p:=⟨w.heap.size+1,2,none⟩) (.inl Wz) _).setCell (p:=⟨w.heap.size+1,3,none⟩) (.inl Wz) _).setCell (p:=⟨w.heap.size+1,4,none⟩) (.inl Wz) _
      have x0:=za (o:=0) (v:=.int .i64 v.kind) hbf rfl
      have x1:=za (o:=1) (v:=.int .i64 v.num) hbf rfl
      have x2:=za (o:=2) (v:=.string v.s) hbf rfl
      have x3:=za (o:=3) (v:=.slice al v.l.length cl) hbf rfl
      have x4:=za (o:=4) (v:=.slice am v.m.length cm) hbf rfl
      clear hbf c0 c1 c2 c3 c4 r0 r1 r2 r3 r4 s0 s1 s2 s3 s4
      revert KF x0 x1 x2 x3 x4
      generalize ((((w5.setCell ⟨w.heap.size+1,0,none⟩ (.int .i64 v.kind)).setCell ⟨w.heap.size+1,1,none⟩ (.int .i64 v.num)).setCell ⟨w.heap.size+1,2,none⟩ (.string v.s)).setCell ⟨w.heap.size+1,3,none⟩ (.slice al v.l.length cl)).setCell ⟨w.heap.size+1,4,none⟩ (.slice am v.m.length cm)=WF
      intro KF x0 x1 x2 x3 x4
      have hz0:=Gi.o
      have hz1:=Gh.o.size
      have hz2:=Gb.o.size
      have hzL:=Gu.o
      have hzr:=Ga.o.kept.size
      have hsame:∀ i,(Value.slice am v.m.length cm).ownBlock=some i→(Value.slice al v.l.length cl).ownBlock≠some i:=fun i hi hx=>by
       have h1:=(hmblk.o i hi).2.2
       have h2:=(hblk.o i (Option.mem_toList.2 hx)).2.2
       rw [h1] at h2
       exact absurd h2 Wo
      have hne:∀ i,W0.heap.size≤i→(Value.slice am v.m.length cm).ownBlock≠some i→i ∉ (Value.slice am v.m.length cm).ownBlock.toList++[w.heap.size+1]:=fun i h1 h2 hx=>by
       rcases List.mem_append.1 hx with hx | hx
       ·exact h2 (Option.mem_toList.1 hx)
       ·simp at hx;omega
      have K5F:zb ((Value.slice am v.m.length cm).ownBlock.toList++[w.heap.size+1]) wr WF:=(Ji.o.mono (fun i hi=>List.mem_append_left _ hi)).trans' (KF.mono (fun i hi=>List.mem_append_right _ hi))
      have KLF:zb ((Value.slice am v.m.length cm).ownBlock.toList++[w.heap.size+1]) WL WF:=(Ga.o.kept.mono (fun i hi=>List.mem_append_left _ hi)).trans' K5F
      have hall:zH (vS (Rep n (fun g=>W0.heap.size≤g∧(Value.slice al v.l.length cl).ownBlock≠some g∧(Value.slice am v.m.length cm).ownBlock≠some g) wr)) (ds0.map (fun x=>(x.key,x.cs))) (v.m.map (qK (zy n))):=by
       have h1:=Ga.o.all
       rw [List.take_length,List.drop_length,List.map_nil,List.append_nil,Jv.o] at h1
       exact h1
      have hsp:=sorted_pairs hall Jw.o Jx.o (by rw [List.map_map];exact Jp.o)
      have hdl:(ds.map (fun x=>(x.key,x.cs))).length=v.m.length:=by rw [hsp.1,List.length_mergeSort,List.length_map]
      have hpe:yk (ds.map (fun x=>(x.key,x.cs)))=ds.flatMap PC.enc:=by
       unfold yk
       rw [List.flatMap_map]
       rfl
      have hown:jd (n+1) w.heap.size WF [.int .i64 v.kind,.int .i64 v.num,.string v.s,.slice al v.l.length cl,.slice am v.m.length cm] (zy (n+1) v):=by
       rw [ZN]
       refine⟨_,_,lsF,ds.map (fun x=>(x.key,x.cs)),rfl,?h1,?h2,?h3,?h4,Jn.o.1,Jn.o.2⟩
       case h1=>
        simp only [List.length_map]
        exact qD (zo Gf.o.row KLF (fun i hi=>hne i ((hblk.o i (Option.mem_toList.2 hi)).1) (fun hx=>hsame i hx hi))) (fun i hi=>by have:=(hblk.o i (Option.mem_toList.2 hi)).1;omega)
       case h2=>
        have h1:=Gf.o.all
        rw [List.take_length,List.drop_length,List.map_nil,List.append_nil] at h1
        exact h1.mono fun _ _ _ r=>r.move KLF (fun i _ ⟨q1,q2,q3⟩=>⟨hne i q1 q3,Ws,q2,q3⟩)
       case h3=>
        simp only [List.length_mergeSort,List.length_map]
        rw [hpe]
        exact qD (zo Jy.o KF (fun i hi hx=>by have:=(hmblk.o i hi).1;simp at hx;omega)) (fun i hi=>by have:=(hmblk.o i hi).1;omega)
       case h4=>
        exact hsp.mono fun _ _ _ r=>⟨r.1,r.2.move K5F (fun i _ ⟨q1,q2,q3⟩=>⟨hne i q1 q3,Ws,q2,q3⟩)⟩
      have hkw:zb [] w WF:=((Jm.o.then Gh.o).trans Jo.o (fun i hi=>by
       rcases List.mem_append.1 hi with hi | hi
       ·have:=(hblk.o i hi).1;exact .inr Ws
       ·have:=(hmblk.o i (Option.mem_toList.1 hi)).1;exact .inr Ws)).trans KF (fun i hi=>by simp at hi;exact .inr Ws)
      exact bodyPost_ret (v:=.agg #[.int .i64 v.kind,.int .i64 v.num,.string v.s,.slice al v.l.length cl,.slice am v.m.length cm]) (by simp [results,results189,go_sem,x0,x1,x2,x3,x4]) rfl ⟨⟨_,rfl,hown⟩,hkw⟩
theorem br:∀ (n:Nat),js n
 | 0=>fun v {_}{_}{_} h _ _=>h.elim
 | n+1=>Kc (br n)
theorem sorted_any:∀ (n:Nat) (v:V n) {S:Nat→Prop}{w:World}{cs:List Value},Rep n S w cs v→yA n v→zr n v=true →
  Calls Tryz.prog 189 #[.agg cs.toArray] w fun e w'=>(∃ cs':List Value,e = .returned (.agg cs'.toArray)∧jd n w.heap.size w' cs' (zy n v))∧zb [] w w':=fun n=>br n
def TabsB (b:Nat) (W:World):Prop:=∃ Wt,qC Wt∧zb [] Wt W∧Wt.heap.size≤b
theorem TabsB.at {b:Nat}{W w:World}(h:TabsB b W) (k:zb [b] W w):qC w:=by
 obtain⟨Wt,h1,h2,h3⟩:=h
 exact h1.kept0 (h2.trans k (fun i hi=>by simp at hi;subst hi;exact .inr h3))
theorem wbyte_44 {T:Nat}(hT:Ke T) {W w:World}{b:Nat}{l:List UInt8}(h:BW T W b w l) (hl:l.length≤100000000) :
  Calls Tryz.prog 83 #[.pointer (some ⟨b,0,none⟩),.int .u8 44] w fun e w'=>e = .returned .nilIface∧BW T W b w' (l++[44])∧yi b w w':=qb hT h hl 44
theorem wbyte_58 {T:Nat}(hT:Ke T) {W w:World}{b:Nat}{l:List UInt8}(h:BW T W b w l) (hl:l.length≤100000000) :
  Calls Tryz.prog 83 #[.pointer (some ⟨b,0,none⟩),.int .u8 58] w fun e w'=>e = .returned .nilIface∧BW T W b w' (l++[58])∧yi b w w':=qb hT h hl 58
theorem KG {W w:World}{b:Nat}{l:List UInt8}(h:BW 200 W b w l) (ht:TabsB b W) (hl:l.length≤90000000) (s:ByteArray) (hs:s.size≤1000000) (hv:zQ s=true) :
  Calls Tryz.prog 185 #[.pointer (some ⟨b,0,none⟩),.string s] w fun e w'=>e = .returned (.tuple #[])∧BW 200 W b w' (l++yG s.data.toList)∧yi b w w':=by
 have CQ:=qI (utfQuote (ht.at h.kept) s hs hv)
 have HB:=qI h
 have HL:Hid ((yc (yG s.data.toList)).size≤100000000):=qI (by
  have:=QL s.data.toList
  rw [xv]
  have e:s.data.toList.length=s.size:=Wz
  omega)
 clear h ht hv
 go_enter func185,ntmps185
 go_wp2_with (first
  | (go_at_call 206;refine CQ.o.mh ?_;rintro e w1 rfl Gh)
  | (go_at_call 182;refine (jm xC (HB.o.stay Gh.o) Ws (yc (yG s.data.toList)) HL.o).mono ?_;rintro e w2 ⟨rfl,hb2,hk2⟩;rw [xZ] at hb2;have Gc:=qI hb2;have Gb:=qI hk2;clear hb2 hk2))
 go_end0
 exact⟨rfl,Gc.o,(yi.of0 Gh.o).trans Gb.o⟩
theorem between1_any {W w:World}{b b2 b3 n:Nat}{l:List UInt8}{J:World→Prop}{it:Nat→List UInt8}{o c:UInt8}
  (HJ:∀ w1 w2,J w1→yi b w1 w2→J w2)
  (HC:∀ k w1 l1,k<n→J w1→BW 200 W b w1 l1→l1.length+(it k).length≤50000000→Calls Tryz.prog 187 #[.int .i64 k,.pointer (some ⟨b2,0,none⟩),.pointer (some ⟨b3,0,none⟩)] w1 fun r w2=>r = .returned (.tuple #[])∧BW 200 W b w2 (l1++it k)∧yi b w1 w2)
  (hJ:J w) (hb:BW 200 W b w l) (hn:n≤20000) (hl:l.length+(yZ it n).length≤49999998) :
  Calls Tryz.prog 186 #[.pointer (some ⟨b,0,none⟩),.int .u8 o.toNat,.int .i64 n,.func (.func 187) #[] #[.pointer (some ⟨b2,0,none⟩),.pointer (some ⟨b3,0,none⟩)],.int .u8 c.toNat] w
   fun r w'=>r = .returned (.tuple #[])∧BW 200 W b w' (l++(o::(yZ it n++[c])))∧yi b w w':=by
 have HB:=qI hb
 have Gw:=qI hJ
 have Gx:=qI HC
 have Gy:=qI HJ
 clear hb hJ HC HJ
 go_enter func186,ntmps186
 go_wp2_with (go_at_call 83;refine (qb xC HB.o Ws o).mono ?_;rintro e w1 ⟨rfl,hb1,hk1⟩;have Jj:=qI hb1;have Gh:=qI hk1;clear hb1 hk1)
 go_loopw [17] (fun i wr=>∃ k:Nat,i = .int .i64 k∧k≤n∧BW 200 W b wr (l++[o]++yZ it k)∧yi b w wr) (fun i _=>n-(intOf i).toNat)
 case atStart=>exact⟨0,rfl,Nat.zero_le _,by rw [je,List.append_nil];exact Jj.o,Gh.o⟩
 case round=>
  obtain⟨k,rfl,hk,hb,hkw⟩:=hrel
  have Gn:=qI hb
  have Gg:=qI hkw
  have hle:=jB it hk
  have hlen:(l++[o]++yZ it k).length=l.length+1+(yZ it k).length:=by simp only [List.length_append,List.length_cons,List.length_nil]
  clear hb hkw
  by_cases hlt:k<n
  ·have hltI:(k:Int)<n:=by omega
   have hst:=bh it k
   have hle2:=jB it (show k+1≤n from hlt)
   by_cases h0:k=0
   ·subst h0
    have CI:=qI (Gx.o _ _ _ hlt (Gy.o _ _ Gw.o Gg.o) Gn.o (by simp only [if_true] at hst;omega))
    have HE:Hid (l++[o]++yZ it 0++it 0=l++[o]++yZ it (0+1)):=qI (by rw [je,ZE,List.append_nil])
    clear hst hlen hle hle2
    rw [show (((0:Nat):Nat):Int)=0 from rfl] at *
    go_wp2_with (go_at_call 187;refine CI.o.mono ?_;rintro e w2 ⟨rfl,hb2,hk2⟩;rw [HE.o] at hb2;have Gc:=qI hb2;have Gb:=qI hk2;clear hb2 hk2)
    case roundEnd=>exact⟨⟨0+1,by go_num,Ws,Gc.o,Gg.o.trans Gb.o⟩,by simp [intOf];omega⟩
   ·have h0I:(0:Int)<k:=by omega
    rw [if_neg h0] at hst
    have HE:Hid (l++[o]++yZ it k++[44]++it k=l++[o]++yZ it (k+1)):=qI (by rw [bE it Ws];simp)
    go_wp2_with (first
     | (go_at_call 83;refine (wbyte_44 xC Gn.o Ws).mono ?_;rintro e w2 ⟨rfl,hb2,hk2⟩;have Gc:=qI hb2;have Gb:=qI hk2;clear hb2 hk2)
     | (go_at_call 187;refine (Gx.o _ _ _ hlt (Gy.o _ _ Gw.o (Gg.o.trans Gb.o)) Gc.o (by rw [List.length_append,hlen];simp only [List.length_cons,List.length_nil];omega)).mono ?_;rintro e w3 ⟨rfl,hb3,hk3⟩;rw [HE.o] at hb3;have Gj:=qI hb3;have Ge:=qI hk3;clear hb3 hk3))
    case roundEnd=>exact⟨⟨k+1,by go_num,Ws,Gj.o,(Gg.o.trans Gb.o).trans Ge.o⟩,by simp [intOf];omega⟩
  ·obtain rfl:k=n:=by omega
   have HE:Hid (l++[o]++yZ it k++[c]=l++(o::(yZ it k++[c]))):=qI Wz
   go_wp2_with (go_at_call 83;refine (qb xC Gn.o Ws c).mono ?_;rintro e w2 ⟨rfl,hb2,hk2⟩;rw [HE.o] at hb2;have Gc:=qI hb2;have Gb:=qI hk2;clear hb2 hk2)
   go_end0
   exact⟨rfl,Gc.o,Gg.o.trans Gb.o⟩
theorem between2_any {W w:World}{b b2 b3 n:Nat}{l:List UInt8}{J:World→Prop}{it:Nat→List UInt8}{o c:UInt8}
  (HJ:∀ w1 w2,J w1→yi b w1 w2→J w2)
  (HC:∀ k w1 l1,k<n→J w1→BW 200 W b w1 l1→l1.length+(it k).length≤50000000→Calls Tryz.prog 188 #[.int .i64 k,.pointer (some ⟨b2,0,none⟩),.pointer (some ⟨b3,0,none⟩)] w1 fun r w2=>r = .returned (.tuple #[])∧BW 200 W b w2 (l1++it k)∧yi b w1 w2)
  (hJ:J w) (hb:BW 200 W b w l) (hn:n≤20000) (hl:l.length+(yZ it n).length≤49999998) :
  Calls Tryz.prog 186 #[.pointer (some ⟨b,0,none⟩),.int .u8 o.toNat,.int .i64 n,.func (.func 188) #[] #[.pointer (some ⟨b2,0,none⟩),.pointer (some ⟨b3,0,none⟩)],.int .u8 c.toNat] w
   fun r w'=>r = .returned (.tuple #[])∧BW 200 W b w' (l++(o::(yZ it n++[c])))∧yi b w w':=by
 have HB:=qI hb
 have Gw:=qI hJ
 have Gx:=qI HC
 have Gy:=qI HJ
 clear hb hJ HC HJ
 go_enter func186,ntmps186
 go_wp2_with (go_at_call 83;refine (qb xC HB.o Ws o).mono ?_;rintro e w1 ⟨rfl,hb1,hk1⟩;have Jj:=qI hb1;have Gh:=qI hk1;clear hb1 hk1)
 go_loopw [17] (fun i wr=>∃ k:Nat,i = .int .i64 k∧k≤n∧BW 200 W b wr (l++[o]++yZ it k)∧yi b w wr) (fun i _=>n-(intOf i).toNat)
 case atStart=>exact⟨0,rfl,Nat.zero_le _,by rw [je,List.append_nil];exact Jj.o,Gh.o⟩
 case round=>
  obtain⟨k,rfl,hk,hb,hkw⟩:=hrel
  have Gn:=qI hb
  have Gg:=qI hkw
  have hle:=jB it hk
  have hlen:(l++[o]++yZ it k).length=l.length+1+(yZ it k).length:=by simp only [List.length_append,List.length_cons,List.length_nil]
  clear hb hkw
  by_cases hlt:k<n
  ·have hltI:(k:Int)<n:=by omega
   have hst:=bh it k
   have hle2:=jB it (show k+1≤n from hlt)
   by_cases h0:k=0
   ·subst h0
    have CI:=qI (Gx.o _ _ _ hlt (Gy.o _ _ Gw.o Gg.o) Gn.o (by simp only [if_true] at hst;omega))
    have HE:Hid (l++[o]++yZ it 0++it 0=l++[o]++yZ it (0+1)):=qI (by rw [je,ZE,List.append_nil])
    clear hst hlen hle hle2
    rw [show (((0:Nat):Nat):Int)=0 from rfl] at *
    go_wp2_with (go_at_call 188;refine CI.o.mono ?_;rintro e w2 ⟨rfl,hb2,hk2⟩;rw [HE.o] at hb2;have Gc:=qI hb2;have Gb:=qI hk2;clear hb2 hk2)
    case roundEnd=>exact⟨⟨0+1,by go_num,Ws,Gc.o,Gg.o.trans Gb.o⟩,by simp [intOf];omega⟩
   ·have h0I:(0:Int)<k:=by omega
    rw [if_neg h0] at hst
    have HE:Hid (l++[o]++yZ it k++[44]++it k=l++[o]++yZ it (k+1)):=qI (by rw [bE it Ws];simp)
    go_wp2_with (first
     | (go_at_call 83;refine (wbyte_44 xC Gn.o Ws).mono ?_;rintro e w2 ⟨rfl,hb2,hk2⟩;have Gc:=qI hb2;have Gb:=qI hk2;clear hb2 hk2)
     | (go_at_call 188;refine (Gx.o _ _ _ hlt (Gy.o _ _ Gw.o (Gg.o.trans Gb.o)) Gc.o (by rw [List.length_append,hlen];simp only [List.length_cons,List.length_nil];omega)).mono ?_;rintro e w3 ⟨rfl,hb3,hk3⟩;rw [HE.o] at hb3;have Gj:=qI hb3;have Ge:=qI hk3;clear hb3 hk3))
    case roundEnd=>exact⟨⟨k+1,by go_num,Ws,Gj.o,(Gg.o.trans Gb.o).trans Ge.o⟩,by simp [intOf];omega⟩
  ·obtain rfl:k=n:=by omega
   have HE:Hid (l++[o]++yZ it k++[c]=l++(o::(yZ it k++[c]))):=qI Wz
   go_wp2_with (go_at_call 83;refine (qb xC Gn.o Ws c).mono ?_;rintro e w2 ⟨rfl,hb2,hk2⟩;rw [HE.o] at hb2;have Gc:=qI hb2;have Gb:=qI hk2;clear hb2 hk2)
   go_end0
   exact⟨rfl,Gc.o,Gg.o.trans Gb.o⟩
end Go.Proofs.YtibnfbglanpoiaaGreatDoor

/- Parts of one proof, merged: XKQ XIA. -/
import Derived.Test.YtibnfbglanpoiaaGreatDoorQcG
import Derived.Test.YtibnfbglanpoiaaGreatDoorQcF
import Derived.Test.YtibnfbglanpoiaaGreatDoorQcD
import Derived.Shelf.SlicesQ.IndexFunc
set_option linter.all false
set_option maxHeartbeats 12800000
set_option maxRecDepth 10000
set_option linter.unusedVariables false
set_option linter.unusedSimpArgs false
set_option linter.unnecessarySimpa false
namespace Go.Proofs.YtibnfbglanpoiaaGreatDoor
open Go.Proofs.Tryz
open Go.RowKit
structure SortL {n:Nat}(B:Nat) (W2:World) (v:VS (V n)) (vl vm:Value) (k:Nat) (wr:World) (ls:List (List Value)):Prop where
 row:wr.ownsRow B 25 5 vl v.l.length ls.flatten
 all:zI (Rep n (fun g=>B≤g∧vl.ownBlock≠some g∧vm.ownBlock≠some g) wr) ls ((v.l.take k).map (zz n) ++ (v.l.drop k).map id)
 kept:zb vl.ownBlock.toList W2 wr
structure SortM {n:Nat}(B:Nat) (W2:World) (v:VS (V n)) (vl vm:Value) (k:Nat) (wr:World) (ms:List (ByteArray × List Value)):Prop where
 row:wr.ownsRow B 132 6 vm v.m.length (zX ms)
 all:zI (jY (Rep n (fun g=>B≤g∧vl.ownBlock≠some g∧vm.ownBlock≠some g) wr)) ms ((v.m.take k).map (fun p=>(p.1,zz n p.2)) ++ (v.m.drop k).map id)
 kept:zb vm.ownBlock.toList W2 wr
theorem Rep.conv {n:Nat}{S:Nat→Prop}{w:World}{cs:List Value}{v:V n}(h:Rep n S w cs v):∃ k m s p i c q j d,cs=[.int .i64 k,.int .i64 m,.string s,.slice p i c,.slice q j d]:=by
 obtain⟨k,m,s,a,b,rfl⟩:=h.five
 obtain⟨p,i,c,q,j,d,rfl,rfl⟩:=h.sl
 exact⟨k,m,s,p,i,c,q,j,d,rfl⟩
theorem sortAny {w:World}{B n cap:Nat}{a:Option Addr}{ms:List PC}(hrow:w.ownsRow B 132 6 (.slice a n cap) n (ms.flatMap PC.enc)) (h63:n≤1000000) :
  Calls Tryz.prog 207 #[.slice a n cap,.func (.func 208) #[] #[]] w fun e w'=>
   e = .returned (.tuple #[])∧∃ ds:List PC,ds.Perm ms∧ds.Pairwise (fun x y=>ltB y.key x.key=false)∧w'.ownsRow B 132 6 (.slice a n cap) n (ds.flatMap PC.enc)∧zb (Value.slice a n cap).ownBlock.toList w w':=by
 have hl:ms.length=n:=by have:=hrow.1;rw [ZV] at this;omega
 cases a with
 | none=>
  have h0:n=0∧cap=0:=by
   rcases hrow.2 with ⟨h,h1⟩ | ⟨g,cap',cur,hv,_⟩
   ·simp only [Value.slice.injEq] at h;exact⟨h.2.1,h.2.2⟩
   ·simp only [Value.slice.injEq] at hv;cases hv.1
  obtain⟨rfl,rfl⟩:=h0
  have:ms=[]:=List.eq_nil_of_length_eq_zero hl
  subst this
  exact (AnyF.slices_SortFunc_none Tryz.shSort none 0 _ w).mono fun e w' ⟨h1,h2⟩=>⟨h1,[],List.Perm.refl _,List.Pairwise.nil,by rw [h2];exact hrow,by rw [h2];exact zb.refl _ _⟩
 | some ad=>
  have had:∃ g,ad=⟨g,0,none⟩:=by
   rcases hrow.2 with ⟨h,h1⟩ | ⟨g,cap',cur,hv,_⟩
   ·simp only [Value.slice.injEq] at h;cases h.1
   ·simp only [Value.slice.injEq,Option.some.injEq] at hv;exact⟨g,hv.1⟩
  obtain⟨g,rfl⟩:=had
  exact (JJ hrow hl h63).mono fun e w' ⟨h1,ds,h2,h3,h4,h5⟩=>⟨h1,ds,h2,h3,h4,by simpa [Value.ownBlock] using h5⟩
theorem sorted_pairs {n:Nat}{R:List Value→V n→Prop}{ds ms:List PC}{xs:List (ByteArray × V n)}(h:zI (jY R) (ms.map (fun x=>(x.key,x.cs))) xs) (hp:ds.Perm ms) (hs:ds.Pairwise (fun x y=>ltB y.key x.key=false)) (hn:(xs.map (fun p=>p.1)).Nodup) :
  zI (jY R) (ds.map (fun x=>(x.key,x.cs))) (xs.mergeSort leK):=by
 obtain⟨ys,h1,h2⟩:=h.perm (hp.map _)
 have hkeys:∀ i (hi:i < ds.length) (hi':i < ys.length),ys[i].1=ds[i].key:=fun i hi hi'=>by
  have:=(h2.2 i _ ys[i] (List.getElem?_eq_getElem (by simpa using hi)) (List.getElem?_eq_getElem hi')).1
  simpa using this.symm
 have hlen:ds.length=ys.length:=by simpa using h2.1
 have hsrt:ys.Pairwise (fun x y=>leK x y=true):=by
  rw [List.pairwise_iff_getElem]
  intro i j hi hj hij
  have h3:=(List.pairwise_iff_getElem.1 hs) i j (by omega) (by omega) hij
  unfold ltB at h3
  rw [decide_eq_false_iff_not,List.not_lt] at h3
  unfold leK
  rw [decide_eq_true_iff,hkeys i (by omega) hi,hkeys j (by omega) hj]
  exact h3
 have hnd:(ys.map (fun p=>p.1)).Nodup:=(h1.map (fun p:ByteArray × V n=>p.1)).nodup_iff.2 hn
 have he:ys=xs.mergeSort leK:=kQ (h1.trans (List.mergeSort_perm xs leK).symm) hsrt (List.pairwise_mergeSort qY vI xs) hnd
 rw [← he]
 exact h2
def jb (n : Nat) : Prop := ∀ (v : V n) {S : Nat → Prop} {w : World} {cs : List Value}, Rep n S w cs v → yk n v → zo n v = true →
    Calls Tryz.prog 189 #[.agg cs.toArray] w fun e w'=>(∃ cs':List Value,e = .returned (.agg cs'.toArray)∧kP n w.heap.size w' cs' (zz n v))∧zb [] w w'
theorem QF {n:Nat}(known:jb n):jb (n + 1):=fun (v:VS (V n)) {S}{w}{cs} h hs hrt=>by
  have Jd:=qI hs
  have Je:=qI hrt
  have Ji:=qI (right_nodup hrt)
  have IH:=qI known
  have hlv:v.l.length≤20000:=by have:=hs.few;omega
  have hmv:v.m.length≤20000:=by have:=hs.few;omega
  obtain⟨kd,nm,st,a,ca,ea,b,cb,eb,rfl⟩:=h.conv
  obtain⟨W0,Gq⟩:∃ W0,Hid (W0=(w.alloc (.cells #[.int .i64 kd,.int .i64 nm,.string st,.slice a ca ea,.slice b cb eb] 25)).alloc (.cells #[.int .i64 0,.int .i64 0,.string ⟨#[]⟩,.slice none 0 0,.slice none 0 0] 25)):=⟨_,qI rfl⟩
  have Gd:Hid (W0.heap.size=w.heap.size + 2):=qI (by rw [Gq.o];simp)
  have Jf:Hid (zb [] w W0):=qI (by rw [Gq.o];exact ((zb.refl [] w).alloc _).alloc _)
  have Jj:Hid (W0.heap[w.heap.size + 1]? = some (.cells #[.int .i64 0,.int .i64 0,.string ⟨#[]⟩,.slice none 0 0,.slice none 0 0] 25 (0,0))):=qI (by
   rw [Gq.o];exact zd (by simp))
  have CC:=qI (zap (n + 1) v (h.kept0 Jf.o) hs)
  clear h hs hrt
  go_enter func189,ntmps189
  go_wp2_with fail
  rw [← Gq.o]
  refine CC.o.mono ?_
  rintro e w1 ⟨⟨cs',rfl,hown⟩,hk1⟩
  have Jk:=qI hown.rep
  obtain⟨vl,vm,lcs,mcs,rfl,hrl,hal,hrm,ham,hwk,hwn⟩:=hown
  obtain⟨al,cl,rfl,-,-⟩:=(Slc.of_row hrl).form
  obtain⟨am,cm,rfl,-,-⟩:=(Slc.of_row hrm).form
  have Gj:=qI hrl
  have Jl:=qI hal
  have Gi:=qI hrm
  have Jm:=qI ham
  have Jg:=qI (And.intro hwk hwn)
  have Gs:=qI hk1
  clear hrl hal hrm ham hwk hwn hk1 CC
  obtain⟨W2,Gk⟩:∃ W2,Hid (W2=w1.alloc (.cells #[.int .i64 v.kind,.int .i64 v.num,.string v.s,.slice al v.l.length cl,.slice am v.m.length cm] 25)):=⟨_,qI rfl⟩
  have Gr:Hid (zb [] w1 W2):=qI (by rw [Gk.o];exact (zb.refl [] w1).alloc _)
  have Gt:Hid (qf W2 w1.heap.size v.kind v.num v.s (.slice al v.l.length cl) (.slice am v.m.length cm)):=qI (by rw [Gk.o];exact yQ _ _ _ _ _ _ _)
  have Gl:Hid (W2.heap.size=w1.heap.size + 1):=qI (by rw [Gk.o];simp)
  obtain⟨c0,c1,c2,c3,c4⟩:=Gt.o
  rw [Gk.o] at c0 c1 c2 c3 c4
  go_wp2_with fail
  rw [← Gk.o]
  clear c0 c1 c2 c3 c4
  have Jn:Hid (SortL W0.heap.size W2 v (.slice al v.l.length cl) (.slice am v.m.length cm) 0 W2 lcs):=qI {
   row:=zk Gj.o Gr.o (by simp)
   all:=by simpa using Jl.o.mono fun _ _ _ r=>r.kept0 Gr.o
   kept:=zb.refl _ _ }
  go_loopw [11] (fun i wr=>∃ (k:Nat) (ls:List (List Value)),i = .int .i64 k∧k≤v.l.length∧SortL W0.heap.size W2 v (.slice al v.l.length cl) (.slice am v.m.length cm) k wr ls) (fun i _=>v.l.length - (intOf i).toNat)
  case atStart=>exact⟨0,_,rfl,Nat.zero_le _,Jn.o⟩
  case round=>
   obtain⟨k,ls,rfl,hk,hsl⟩:=hrel
   have Ga:=qI hsl
   clear hsl
   by_cases hlt:k < v.l.length
   ·have hltI:(k:Int) < v.l.length:=by omega
    obtain⟨g,rfl,hgB,hgl⟩:∃ g,al=some ⟨g,0,none⟩∧W0.heap.size≤g∧g < w1.heap.size:=by
     rcases Gj.o.2 with ⟨_,h0⟩ | ⟨g,cap,cur,hv,r1,r2,_⟩
     ·omega
     ·simp only [Value.slice.injEq] at hv
      exact⟨g,hv.1,r1,lt_of_block r2⟩
    have hlsl:ls.length=v.l.length:=by rw [Ga.o.all.1];simp;omega
    have hk':k < ls.length:=by omega
    have hrep:=Ga.o.all.2 k ls[k] v.l[k] (List.getElem?_eq_getElem hk') (zal (zz n) id v.l k hlt)
    obtain⟨xk,xm,xs,xp,xi,xc,xq,xj,xd,ex⟩:=hrep.conv
    obtain⟨g',o',cap',hsv,q0,q1,q2,q3,q4⟩:=(Slc.of_row Ga.o.row).at5 (fun c hc=>by obtain⟨y,_,r⟩:=Ga.o.all.mem_left hc;exact r.len) hk' ex
    simp only [Value.slice.injEq,Option.some.injEq,Addr.mk.injEq,and_true,true_and] at hsv
    obtain⟨⟨rfl,rfl⟩,-⟩:=hsv
    rw [ex] at hrep
    have Gu:=qI hrep
    have Gm:Hid (zb [g] W2 wr):=qI (by have:=Ga.o.kept;simpa [Value.ownBlock] using this)
    have hgne:g≠w1.heap.size:=by omega
    have y3:=(Gt.o.kept Gm.o (by simpa using Ne.symm hgne)).c3
    have Gv:=qI (Jd.o.kid (kE (List.getElem_mem hlt)))
    have Gw:=qI (qz Je.o (kE (List.getElem_mem hlt)))
    clear hrep
    rw [Nat.zero_add] at q0 q1 q2 q3 q4
    go_wp2_with fail
    refine zr (n:=11) (fun w':World=>w'.cell? ⟨w1.heap.size,3,none⟩=some (.slice (some ⟨g,0,none⟩) v.l.length cl)∧w'.cell? ⟨g,k * 5,none⟩=some (.int .i64 xk)∧w'.cell? ⟨g,k * 5 + 1,none⟩=some (.int .i64 xm)∧w'.cell? ⟨g,k * 5 + 2,none⟩=some (.string xs)∧w'.cell? ⟨g,k * 5 + 3,none⟩=some (.slice xp xi xc)∧w'.cell? ⟨g,k * 5 + 4,none⟩=some (.slice xq xj xd)) 10 (by kernel_rfl) (by kernel_rfl) ?_
    change zM _ _ _ _ _ _ _ _ _ wr.drew
    have hSS:(fun w':World=>w'.cell? ⟨w1.heap.size,3,none⟩=some (.slice (some ⟨g,0,none⟩) v.l.length cl)∧w'.cell? ⟨g,k * 5,none⟩=some (.int .i64 xk)∧w'.cell? ⟨g,k * 5 + 1,none⟩=some (.int .i64 xm)∧w'.cell? ⟨g,k * 5 + 2,none⟩=some (.string xs)∧w'.cell? ⟨g,k * 5 + 3,none⟩=some (.slice xp xi xc)∧w'.cell? ⟨g,k * 5 + 4,none⟩=some (.slice xq xj xd)) wr.drew:=⟨y3,q0,q1,q2,q3,q4⟩
    have Gb:Hid (zb [] wr wr.drew):=qI (zb.refl _ _).drew
    clear y3 q0 q1 q2 q3 q4
    revert hSS Gb
    generalize wr.drew=WD
    intro hSS Gb
    refine zG ?_
    intro O R hO hR
    have hQp:∀ c a (d:Nat) v w,R (.panic c) (a.put (some d) v) w→R (.panic c) a w:=by subst hR;exact fun _ _ _ _ _ h=>h
    refine qT 0 ?_ hO rfl rfl (by kernel_rfl) hQp (fun w hSw=>?_) hSS ?_
    rotate_left
    ·obtain⟨s0,s1,s2,s3,s4,s5⟩:=hSw;go_simp;try with_reducible rfl
    try simp only [zA,zN,zB,zC,zD]
    refine qT 1 ?_ hO rfl rfl (by kernel_rfl) hQp (fun w hSw=>?_) hSS ?_
    rotate_left
    ·obtain⟨s0,s1,s2,s3,s4,s5⟩:=hSw;go_simp;try with_reducible rfl
    try simp only [zA,zN,zB,zC,zD]
    refine qT 2 ?_ hO rfl rfl (by kernel_rfl) hQp (fun w hSw=>?_) hSS ?_
    rotate_left
    ·obtain⟨s0,s1,s2,s3,s4,s5⟩:=hSw;go_simp;try with_reducible rfl
    try simp only [zA,zN,zB,zC,zD]
    refine qT 3 ?_ hO rfl rfl (by kernel_rfl) hQp (fun w hSw=>?_) hSS ?_
    rotate_left
    ·obtain⟨s0,s1,s2,s3,s4,s5⟩:=hSw;go_simp;try with_reducible rfl
    try simp only [zA,zN,zB,zC,zD]
    refine qT 4 ?_ hO rfl rfl (by kernel_rfl) hQp (fun w hSw=>?_) hSS ?_
    rotate_left
    ·obtain⟨s0,s1,s2,s3,s4,s5⟩:=hSw;go_simp;try with_reducible rfl
    try simp only [zA,zN,zB,zC,zD]
    refine qT 5 ?_ hO rfl rfl (by kernel_rfl) hQp (fun w hSw=>?_) hSS ?_
    rotate_left
    ·obtain⟨s0,s1,s2,s3,s4,s5⟩:=hSw;go_simp;try with_reducible rfl
    try simp only [zA,zN,zB,zC,zD]
    refine qT 6 ?_ hO rfl rfl (by kernel_rfl) hQp (fun w hSw=>?_) hSS ?_
    rotate_left
    ·obtain⟨s0,s1,s2,s3,s4,s5⟩:=hSw;go_simp;try with_reducible rfl
    try simp only [zA,zN,zB,zC,zD]
    refine qT 7 ?_ hO rfl rfl (by kernel_rfl) hQp (fun w hSw=>?_) hSS ?_
    rotate_left
    ·obtain⟨s0,s1,s2,s3,s4,s5⟩:=hSw;go_simp;try with_reducible rfl
    try simp only [zA,zN,zB,zC,zD]
    refine qO 8 hO rfl (by kernel_rfl) (fun K hK=>?_)
    go_simp
    refine Calls.mono (IH.o v.l[k] (Gu.o.kept0 Gb.o) Gv.o Gw.o) ?_
    rintro e w3 ⟨⟨c3,rfl,hown3⟩,hk3⟩
    have Ge:=qI hown3.rep
    have Gf:=qI (Gb.o.then hk3)
    have hS3:(fun w':World=>w'.cell? ⟨w1.heap.size,3,none⟩=some (.slice (some ⟨g,0,none⟩) v.l.length cl)∧w'.cell? ⟨g,k * 5,none⟩=some (.int .i64 xk)∧w'.cell? ⟨g,k * 5 + 1,none⟩=some (.int .i64 xm)∧w'.cell? ⟨g,k * 5 + 2,none⟩=some (.string xs)∧w'.cell? ⟨g,k * 5 + 3,none⟩=some (.slice xp xi xc)∧w'.cell? ⟨g,k * 5 + 4,none⟩=some (.slice xq xj xd)) w3:=⟨hk3.cell hSS.1 (by simp),hk3.cell hSS.2.1 (by simp),hk3.cell hSS.2.2.1 (by simp),hk3.cell hSS.2.2.2.1 (by simp),hk3.cell hSS.2.2.2.2.1 (by simp),hk3.cell hSS.2.2.2.2.2 (by simp)⟩
    have Gg:Hid (wr.heap.size≤WD.heap.size∧WD.heap.size≤w3.heap.size):=qI ⟨Gb.o.size,hk3.size⟩
    clear hown3 hk3
    refine hK _ _ (.inr hS3) ?_
    clear hK K
    try simp only [zA,zN,zB,zC,zD]
    clear hSS
    have hSS:=hS3
    clear hS3
    refine qO 9 hO rfl (by kernel_rfl) (fun K hK=>?_)
    go_simp
    refine hK _ _ (.inr hSS) ?_
    clear hK K
    try simp only [zA,zN,zB,zC,zD]
    have hlen3:c3.length=5:=Ge.o.len
    have hls5:∀ x,x ∈ ls→x.length=5:=fun c hc=>by obtain⟨y,_,r⟩:=Ga.o.all.mem_left hc;exact r.len
    obtain⟨hro,hth,hkg⟩:=row_stored (i:=k) (g:=g) (c:=c3) (zk Ga.o.row Gf.o (by simp)) hls5 rfl hlsl hlt hlen3
    have Gx:=qI hro
    have Gh:=qI hkg
    clear hro hkg hls5
    refine qO 10 hO rfl (by kernel_rfl) (fun K hK=>?_)
    refine wp_store_mid 25 (.tmp 23) (.tmp 22) rfl g (k * 5) c3.toArray rfl rfl (by rw [List.size_toArray,hlen3];exact hth) (by rw [List.size_toArray,hlen3];kernel_rfl) (all_oneCell_toArray Ge.o.one) ?_
    refine hK _ _ (.inl rfl) ?_
    clear hK K
    try simp only [zA,zN,zB,zC,zD]
    refine zE hO (by kernel_rfl) ?_ _
    subst hR
    try clear hQp hO O
    clear hth hSS hlen3
    go_wp2_with fail
    case roundEnd=>
     have hzW:=Gd.o
     have hz2:=Gl.o
     have hzx:=Gm.o.size
     have hzd:=Gg.o
     refine⟨⟨k + 1,ls.set k c3,by go_num,by omega,{
      row:=Gx.o
      all:=?_
      kept:=?_ }⟩,by simp [intOf];omega⟩
     ·rw [← take_set (zz n) id v.l k hlt]
      refine zI.set (Ga.o.all.mono fun c y _ r=>r.move ((Gf.o.mono (by simp)).trans' Gh.o) ?_) k (Ge.o.move Gh.o ?_)
      ·intro i hi ⟨h1,h2,h3⟩
       exact⟨by intro hx;simp at hx;subst hx;exact h2 rfl,h1,h2,h3⟩
      ·intro i hi h1
       have hmlt:=Gi.o.lt
       refine⟨by intro hx;simp at hx;omega,by omega,?_,?_⟩
       ·intro hx;simp [Value.ownBlock] at hx;omega
       ·intro hx;have:=(hmlt i hx).2;omega
     ·have h1:=(Ga.o.kept.then Gf.o).trans Gh.o (by intro i hi;simp at hi;subst hi;exact .inl (by simp [Value.ownBlock]))
      exact h1
   ·obtain rfl:k=v.l.length:=by omega
    obtain⟨WL,rfl⟩:∃ x,x=wr:=⟨_,rfl⟩
    obtain⟨lsF,rfl⟩:∃ x,x=ls:=⟨_,rfl⟩
    have Gc:=qI Ga.o
    have hblk:Hid (∀ i,i ∈ (Value.slice al v.l.length cl).ownBlock.toList→W0.heap.size≤i∧i < w1.heap.size∧kind w1 i=25 + 2):=qI fun i hi=>⟨(Gj.o.lt i (Option.mem_toList.1 hi)).1,(Gj.o.lt i (Option.mem_toList.1 hi)).2,yd Gj.o (Option.mem_toList.1 hi)⟩
    have hmblk:Hid (∀ i,(Value.slice am v.m.length cm).ownBlock=some i→W0.heap.size≤i∧i < w1.heap.size∧kind w1 i=132 + 2):=qI fun i hi=>⟨(Gi.o.lt i hi).1,(Gi.o.lt i hi).2,yd Gi.o hi⟩
    have Gy:Hid (zb (Value.slice al v.l.length cl).ownBlock.toList w1 WL):=qI ((Gr.o.mono (by simp)).trans' Gc.o.kept)
    have Gn:Hid (W2.heap.size≤WL.heap.size):=qI Gc.o.kept.size
    have hb3l:=Gt.o.kept Gc.o.kept (by intro hx;have:=hblk.o _ hx;omega)
    have Gp:=qI hb3l
    have Gz:Hid (SortM W0.heap.size WL v (.slice al v.l.length cl) (.slice am v.m.length cm) 0 WL mcs):=qI {
     row:=zk Gi.o Gy.o (fun i hi hx=>by have h1:=(hmblk.o i hi).2.2;have h2:=(hblk.o i hx).2.2;rw [h1] at h2;exact absurd h2 (by decide))
     all:=by simpa using Jm.o.mono fun _ _ _ r=>⟨r.1,r.2.move Gy.o (fun i hi ⟨h1,h2,h3⟩=>⟨fun hx=>h2 (Option.mem_toList.1 hx),h1,h2,h3⟩)⟩
     kept:=zb.refl _ _ }
    obtain⟨c0,c1,c2,c3,c4⟩:=hb3l
    clear Ga
    go_wp2_with fail
    clear c0 c1 c2 c3 c4
    go_loopw [28] (fun i wr=>∃ (k:Nat) (ms:List (ByteArray × List Value)),i = .int .i64 k∧k≤v.m.length∧SortM W0.heap.size WL v (.slice al v.l.length cl) (.slice am v.m.length cm) k wr ms) (fun i _=>v.m.length - (intOf i).toNat)
    case atStart=>exact⟨0,_,rfl,Nat.zero_le _,Gz.o⟩
    case round=>
     obtain⟨k,ls,rfl,hk,hsl⟩:=hrel
     have Ga:=qI hsl
     clear hsl
     by_cases hlt:k < v.m.length
     ·have hltI:(k:Int) < v.m.length:=by omega
      obtain⟨g,rfl,hgB,hgl⟩:∃ g,am=some ⟨g,0,none⟩∧W0.heap.size≤g∧g < w1.heap.size:=by
       rcases Gi.o.2 with ⟨_,h0⟩ | ⟨g,cap,cur,hv,r1,r2,_⟩
       ·omega
       ·simp only [Value.slice.injEq] at hv
        exact⟨g,hv.1,r1,lt_of_block r2⟩
      have hlsl:ls.length=v.m.length:=by rw [Ga.o.all.1];simp;omega
      have hk':k < ls.length:=by omega
      have hpr:=Ga.o.all.2 k ls[k] v.m[k] (List.getElem?_eq_getElem hk') (zal (fun p:ByteArray × V n=>(p.1,zz n p.2)) id v.m k hlt)
      obtain⟨xk,xm,xs,xp,xi,xc,xq,xj,xd,ex⟩:=hpr.2.conv
      have h66:∀ c,c ∈ ls.map yJ→c.length=6:=fun c hc=>by
       obtain⟨p,hp,rfl⟩:=List.mem_map.1 hc
       obtain⟨y,_,r⟩:=Ga.o.all.mem_left hp
       simp [yJ,r.2.len]
      obtain⟨g',o',cap',hsv,-,q0,q1,q2,q3,q4⟩:=(Slc.of_row Ga.o.row).at6 h66 hk' ex
      simp only [Value.slice.injEq,Option.some.injEq,Addr.mk.injEq,and_true,true_and] at hsv
      obtain⟨⟨rfl,rfl⟩,-⟩:=hsv
      have hrep:=hpr.2
      rw [ex] at hrep
      have Gu:=qI hrep
      have Ja:=qI hpr.1
      have Gm:Hid (zb [g] WL wr):=qI (by have:=Ga.o.kept;simpa [Value.ownBlock] using this)
      have hgne:g≠w1.heap.size:=by omega
      have y3:=(Gp.o.kept Gm.o (by simpa using Ne.symm hgne)).c4
      have Gv:=qI (Jd.o.kid (kD (List.getElem_mem hlt)))
      have Gw:=qI (qz Je.o (kD (List.getElem_mem hlt)))
      have H66:=qI h66
      clear hrep hpr h66
      rw [Nat.zero_add] at q0 q1 q2 q3 q4
      go_wp2_with fail
      refine zr (n:=13) (fun w':World=>w'.cell? ⟨w1.heap.size,4,none⟩=some (.slice (some ⟨g,0,none⟩) v.m.length cm)∧w'.cell? ⟨g,k * 6 + 1,none⟩=some (.int .i64 xk)∧w'.cell? ⟨g,k * 6 + 2,none⟩=some (.int .i64 xm)∧w'.cell? ⟨g,k * 6 + 3,none⟩=some (.string xs)∧w'.cell? ⟨g,k * 6 + 4,none⟩=some (.slice xp xi xc)∧w'.cell? ⟨g,k * 6 + 5,none⟩=some (.slice xq xj xd)) 12 (by kernel_rfl) (by kernel_rfl) ?_
      change zM _ _ _ _ _ _ _ _ _ wr.drew
      have hSS:(fun w':World=>w'.cell? ⟨w1.heap.size,4,none⟩=some (.slice (some ⟨g,0,none⟩) v.m.length cm)∧w'.cell? ⟨g,k * 6 + 1,none⟩=some (.int .i64 xk)∧w'.cell? ⟨g,k * 6 + 2,none⟩=some (.int .i64 xm)∧w'.cell? ⟨g,k * 6 + 3,none⟩=some (.string xs)∧w'.cell? ⟨g,k * 6 + 4,none⟩=some (.slice xp xi xc)∧w'.cell? ⟨g,k * 6 + 5,none⟩=some (.slice xq xj xd)) wr.drew:=⟨y3,q0,q1,q2,q3,q4⟩
      have Gb:Hid (zb [] wr wr.drew):=qI (zb.refl _ _).drew
      clear y3 q0 q1 q2 q3 q4
      revert hSS Gb
      generalize wr.drew=WD
      intro hSS Gb
      refine zG ?_
      intro O R hO hR
      have hQp:∀ c a (d:Nat) v w,R (.panic c) (a.put (some d) v) w→R (.panic c) a w:=by subst hR;exact fun _ _ _ _ _ h=>h
      refine qT 0 ?_ hO rfl rfl (by kernel_rfl) hQp (fun w hSw=>?_) hSS ?_
      rotate_left
      ·obtain⟨s0,s1,s2,s3,s4,s5⟩:=hSw;go_simp;try with_reducible rfl
      try simp only [zA,zN,zB,zC,zD]
      refine qT 1 ?_ hO rfl rfl (by kernel_rfl) hQp (fun w hSw=>?_) hSS ?_
      rotate_left
      ·obtain⟨s0,s1,s2,s3,s4,s5⟩:=hSw;go_simp;try with_reducible rfl
      try simp only [zA,zN,zB,zC,zD]
      refine qT 2 ?_ hO rfl rfl (by kernel_rfl) hQp (fun w hSw=>?_) hSS ?_
      rotate_left
      ·obtain⟨s0,s1,s2,s3,s4,s5⟩:=hSw;go_simp;try with_reducible rfl
      try simp only [zA,zN,zB,zC,zD]
      refine qT 3 ?_ hO rfl rfl (by kernel_rfl) hQp (fun w hSw=>?_) hSS ?_
      rotate_left
      ·obtain⟨s0,s1,s2,s3,s4,s5⟩:=hSw;go_simp;try with_reducible rfl
      try simp only [zA,zN,zB,zC,zD]
      refine qT 4 ?_ hO rfl rfl (by kernel_rfl) hQp (fun w hSw=>?_) hSS ?_
      rotate_left
      ·obtain⟨s0,s1,s2,s3,s4,s5⟩:=hSw;go_simp;try with_reducible rfl
      try simp only [zA,zN,zB,zC,zD]
      refine qT 5 ?_ hO rfl rfl (by kernel_rfl) hQp (fun w hSw=>?_) hSS ?_
      rotate_left
      ·obtain⟨s0,s1,s2,s3,s4,s5⟩:=hSw;go_simp;try with_reducible rfl
      try simp only [zA,zN,zB,zC,zD]
      refine qT 6 ?_ hO rfl rfl (by kernel_rfl) hQp (fun w hSw=>?_) hSS ?_
      rotate_left
      ·obtain⟨s0,s1,s2,s3,s4,s5⟩:=hSw;go_simp;try with_reducible rfl
      try simp only [zA,zN,zB,zC,zD]
      refine qT 7 ?_ hO rfl rfl (by kernel_rfl) hQp (fun w hSw=>?_) hSS ?_
      rotate_left
      ·obtain⟨s0,s1,s2,s3,s4,s5⟩:=hSw;go_simp;try with_reducible rfl
      try simp only [zA,zN,zB,zC,zD]
      refine qT 8 ?_ hO rfl rfl (by kernel_rfl) hQp (fun w hSw=>?_) hSS ?_
      rotate_left
      ·obtain⟨s0,s1,s2,s3,s4,s5⟩:=hSw;go_simp;try with_reducible rfl
      try simp only [zA,zN,zB,zC,zD]
      refine qO 9 hO rfl (by kernel_rfl) (fun K hK=>?_)
      go_simp
      refine Calls.mono (IH.o v.m[k].2 (Gu.o.kept0 Gb.o) Gv.o Gw.o) ?_
      rintro e w3 ⟨⟨c3,rfl,hown3⟩,hk3⟩
      have Ge:=qI hown3.rep
      have Gf:=qI (Gb.o.then hk3)
      have hS3:(fun w':World=>w'.cell? ⟨w1.heap.size,4,none⟩=some (.slice (some ⟨g,0,none⟩) v.m.length cm)∧w'.cell? ⟨g,k * 6 + 1,none⟩=some (.int .i64 xk)∧w'.cell? ⟨g,k * 6 + 2,none⟩=some (.int .i64 xm)∧w'.cell? ⟨g,k * 6 + 3,none⟩=some (.string xs)∧w'.cell? ⟨g,k * 6 + 4,none⟩=some (.slice xp xi xc)∧w'.cell? ⟨g,k * 6 + 5,none⟩=some (.slice xq xj xd)) w3:=⟨hk3.cell hSS.1 (by simp),hk3.cell hSS.2.1 (by simp),hk3.cell hSS.2.2.1 (by simp),hk3.cell hSS.2.2.2.1 (by simp),hk3.cell hSS.2.2.2.2.1 (by simp),hk3.cell hSS.2.2.2.2.2 (by simp)⟩
      have Gg:Hid (wr.heap.size≤WD.heap.size∧WD.heap.size≤w3.heap.size):=qI ⟨Gb.o.size,hk3.size⟩
      clear hown3 hk3
      refine hK _ _ (.inr hS3) ?_
      clear hK K
      try simp only [zA,zN,zB,zC,zD]
      clear hSS
      have hSS:=hS3
      clear hS3
      refine qO 10 hO rfl (by kernel_rfl) (fun K hK=>?_)
      go_simp
      refine hK _ _ (.inr hSS) ?_
      clear hK K
      try simp only [zA,zN,zB,zC,zD]
      refine qO 11 hO rfl (by kernel_rfl) (fun K hK=>?_)
      go_simp
      refine hK _ _ (.inr hSS) ?_
      clear hK K
      try simp only [zA,zN,zB,zC,zD]
      have hlen3:c3.length=5:=Ge.o.len
      have hbnd:k * 6 + 1 + c3.length≤v.m.length * 6:=by rw [hlen3];omega
      obtain⟨⟨ys,hro,-,hys⟩,hth,hkg⟩:=zah (g:=g) (o:=k * 6 + 1) (c:=c3) (zk Ga.o.row Gf.o (by simp)) rfl hbnd
      have hye:=pair_set H66.o hk' hlen3 hys
      subst hye
      have Gx:=qI hro
      have Gh:=qI hkg
      clear hro hkg hys hbnd
      refine qO 12 hO rfl (by kernel_rfl) (fun K hK=>?_)
      refine wp_store_mid 25 (.tmp 42) (.tmp 40) rfl g (k * 6 + 1) c3.toArray rfl rfl (by rw [List.size_toArray];exact hth) (by rw [List.size_toArray,hlen3];kernel_rfl) (all_oneCell_toArray Ge.o.one) ?_
      refine hK _ _ (.inl rfl) ?_
      clear hK K
      try simp only [zA,zN,zB,zC,zD]
      refine zE hO (by kernel_rfl) ?_ _
      subst hR
      try clear hQp hO O
      clear hth hSS hlen3
      go_wp2_with fail
      case roundEnd=>
       have hzW:=Gd.o
       have hz2:=Gl.o
       have hzl:=Gn.o
       have hzx:=Gm.o.size
       have hzd:=Gg.o
       refine⟨⟨k + 1,ls.set k (ls[k].1,c3),by go_num,by omega,{
        row:=Gx.o
        all:=?_
        kept:=?_ }⟩,by simp [intOf];omega⟩
       ·rw [← take_set (fun p:ByteArray × V n=>(p.1,zz n p.2)) id v.m k hlt]
        refine zI.set (Ga.o.all.mono fun c y _ r=>⟨r.1,r.2.move ((Gf.o.mono (by simp)).trans' Gh.o) ?ga⟩) k ⟨Ja.o,Ge.o.move Gh.o ?gb⟩
        case ga=>
         intro i hi ⟨h1,h2,h3⟩
         exact⟨by intro hx;simp at hx;subst hx;exact h3 rfl,h1,h2,h3⟩
        case gb=>
         intro i hi h1
         refine⟨by intro hx;simp at hx;omega,by omega,?_,?_⟩
         ·intro hx;have:=hblk.o i (Option.mem_toList.2 hx);omega
         ·intro hx;simp [Value.ownBlock] at hx;omega
       ·exact (Ga.o.kept.then Gf.o).trans Gh.o (by intro i hi;simp at hi;subst hi;exact .inl (by simp [Value.ownBlock]))
     ·obtain rfl:k=v.m.length:=by omega
      obtain⟨ds0,hls,henc⟩:=pcs_of Ga.o.all
      have CS:=qI (sortAny (ms:=ds0) (by rw [← henc];exact Ga.o.row) (by omega))
      have Jo:=qI hls
      have hb3f:=Gp.o.kept Ga.o.kept (by intro hx;have:=hmblk.o _ (Option.mem_toList.1 hx);omega)
      have Jb:=qI hb3f
      have c4:=hb3f.c4
      clear hls henc hb3f
      go_wp2_with fail
      refine CS.o.mono ?_
      rintro e w5 ⟨rfl,ds,hdp,hds,hrow5,hk5⟩
      have Jp:=qI hdp
      have Jq:=qI hds
      have Jr:=qI hrow5
      have Jc:=qI hk5
      clear hdp hds hrow5 hk5 c4
      obtain⟨c0,c1,c2,c3,c4⟩:=Jb.o.kept Jc.o (by intro hx;have:=hmblk.o _ (Option.mem_toList.1 hx);omega)
      have Jh:Hid (zb ((Value.slice al v.l.length cl).ownBlock.toList ++ (Value.slice am v.m.length cm).ownBlock.toList) w1 w5):=qI (((Gy.o.mono (fun i hi=>List.mem_append_left _ hi)).trans' (Ga.o.kept.mono (fun i hi=>List.mem_append_right _ hi))).trans' (Jc.o.mono (fun i hi=>List.mem_append_right _ hi)))
      have hbr:w5.heap[w.heap.size + 1]? = some (.cells #[.int .i64 0,.int .i64 0,.string ⟨#[]⟩,.slice none 0 0,.slice none 0 0] 25 (0,0)):=Jh.o.heap (Gs.o.heap Jj.o (by simp)) (by
       intro hx
       have hz:=Gd.o
       rcases List.mem_append.1 hx with hx | hx
       ·have:=hblk.o _ hx;omega
       ·have:=hmblk.o _ (Option.mem_toList.1 hx);omega)
      have Js:=qI hbr
      have r0:=za (o:=0) (v:=.int .i64 0) hbr rfl
      have r1:=za (o:=1) (v:=.int .i64 0) hbr rfl
      have r2:=za (o:=2) (v:=.string ⟨#[]⟩) hbr rfl
      have r3:=za (o:=3) (v:=.slice none 0 0) hbr rfl
      have r4:=za (o:=4) (v:=.slice none 0 0) hbr rfl
      have s0:=zh (o:=0) hbr
      have s1:=zh (o:=1) hbr
      have s2:=zh (o:=2) hbr
      have s3:=zh (o:=3) hbr
      have s4:=zh (o:=4) hbr
      clear hbr
      go_wp2_with fail
      have hbf:=ze (v:=.slice am v.m.length cm) (i:=4) (ze (v:=.slice al v.l.length cl) (i:=3) (ze (v:=.string v.s) (i:=2) (ze (v:=.int .i64 v.num) (i:=1) (ze (v:=.int .i64 v.kind) (i:=0) Js.o rfl) rfl) rfl) rfl) rfl
      have KF:zb [w.heap.size + 1] w5 (((((w5.setCell ⟨w.heap.size + 1,0,none⟩ (.int .i64 v.kind)).setCell ⟨w.heap.size + 1,1,none⟩ (.int .i64 v.num)).setCell ⟨w.heap.size + 1,2,none⟩ (.string v.s)).setCell ⟨w.heap.size + 1,3,none⟩ (.slice al v.l.length cl)).setCell ⟨w.heap.size + 1,4,none⟩ (.slice am v.m.length cm)):=
       (((((zb.refl _ _).setCell (p:=⟨w.heap.size + 1,0,none⟩) (.inl (by simp)) _).setCell (p:=⟨w.heap.size + 1,1,none⟩) (.inl (by simp)) _).setCell (p:=⟨w.heap.size + 1,2,none⟩) (.inl (by simp)) _).setCell (p:=⟨w.heap.size + 1,3,none⟩) (.inl (by simp)) _).setCell (p:=⟨w.heap.size + 1,4,none⟩) (.inl (by simp)) _
      have x0:=za (o:=0) (v:=.int .i64 v.kind) hbf rfl
      have x1:=za (o:=1) (v:=.int .i64 v.num) hbf rfl
      have x2:=za (o:=2) (v:=.string v.s) hbf rfl
      have x3:=za (o:=3) (v:=.slice al v.l.length cl) hbf rfl
      have x4:=za (o:=4) (v:=.slice am v.m.length cm) hbf rfl
      clear hbf c0 c1 c2 c3 c4 r0 r1 r2 r3 r4 s0 s1 s2 s3 s4
      revert KF x0 x1 x2 x3 x4
      generalize ((((w5.setCell ⟨w.heap.size + 1,0,none⟩ (.int .i64 v.kind)).setCell ⟨w.heap.size + 1,1,none⟩ (.int .i64 v.num)).setCell ⟨w.heap.size + 1,2,none⟩ (.string v.s)).setCell ⟨w.heap.size + 1,3,none⟩ (.slice al v.l.length cl)).setCell ⟨w.heap.size + 1,4,none⟩ (.slice am v.m.length cm)=WF
      intro KF x0 x1 x2 x3 x4
      have hz0:=Gd.o
      have hz1:=Gs.o.size
      have hz2:=Gr.o.size
      have hzL:=Gn.o
      have hzr:=Ga.o.kept.size
      have hsame:∀ i,(Value.slice am v.m.length cm).ownBlock=some i→(Value.slice al v.l.length cl).ownBlock≠some i:=fun i hi hx=>by
       have h1:=(hmblk.o i hi).2.2
       have h2:=(hblk.o i (Option.mem_toList.2 hx)).2.2
       rw [h1] at h2
       exact absurd h2 (by decide)
      have hne:∀ i,W0.heap.size≤i→(Value.slice am v.m.length cm).ownBlock≠some i→i ∉ (Value.slice am v.m.length cm).ownBlock.toList ++ [w.heap.size + 1]:=fun i h1 h2 hx=>by
       rcases List.mem_append.1 hx with hx | hx
       ·exact h2 (Option.mem_toList.1 hx)
       ·simp at hx;omega
      have K5F:zb ((Value.slice am v.m.length cm).ownBlock.toList ++ [w.heap.size + 1]) wr WF:=(Jc.o.mono (fun i hi=>List.mem_append_left _ hi)).trans' (KF.mono (fun i hi=>List.mem_append_right _ hi))
      have KLF:zb ((Value.slice am v.m.length cm).ownBlock.toList ++ [w.heap.size + 1]) WL WF:=(Ga.o.kept.mono (fun i hi=>List.mem_append_left _ hi)).trans' K5F
      have hall:zI (jY (Rep n (fun g=>W0.heap.size≤g∧(Value.slice al v.l.length cl).ownBlock≠some g∧(Value.slice am v.m.length cm).ownBlock≠some g) wr)) (ds0.map (fun x=>(x.key,x.cs))) (v.m.map (qt (zz n))):=by
       have h1:=Ga.o.all
       rw [List.take_length,List.drop_length,List.map_nil,List.append_nil,Jo.o] at h1
       exact h1
      have hsp:=sorted_pairs hall Jp.o Jq.o (by rw [List.map_map];exact Ji.o)
      have hdl:(ds.map (fun x=>(x.key,x.cs))).length=v.m.length:=by rw [hsp.1,List.length_mergeSort,List.length_map]
      have hpe:zX (ds.map (fun x=>(x.key,x.cs)))=ds.flatMap PC.enc:=by
       unfold zX
       rw [List.flatMap_map]
       rfl
      have hown:kP (n + 1) w.heap.size WF [.int .i64 v.kind,.int .i64 v.num,.string v.s,.slice al v.l.length cl,.slice am v.m.length cm] (zz (n + 1) v):=by
       rw [bD]
       refine⟨_,_,lsF,ds.map (fun x=>(x.key,x.cs)),rfl,?h1,?h2,?h3,?h4,Jg.o.1,Jg.o.2⟩
       case h1=>
        simp only [List.length_map]
        exact qj (zk Gc.o.row KLF (fun i hi=>hne i ((hblk.o i (Option.mem_toList.2 hi)).1) (fun hx=>hsame i hx hi))) (fun i hi=>by have:=(hblk.o i (Option.mem_toList.2 hi)).1;omega)
       case h2=>
        have h1:=Gc.o.all
        rw [List.take_length,List.drop_length,List.map_nil,List.append_nil] at h1
        exact h1.mono fun _ _ _ r=>r.move KLF (fun i _ ⟨q1,q2,q3⟩=>⟨hne i q1 q3,by omega,q2,q3⟩)
       case h3=>
        simp only [List.length_mergeSort,List.length_map]
        rw [hpe]
        exact qj (zk Jr.o KF (fun i hi hx=>by have:=(hmblk.o i hi).1;simp at hx;omega)) (fun i hi=>by have:=(hmblk.o i hi).1;omega)
       case h4=>
        exact hsp.mono fun _ _ _ r=>⟨r.1,r.2.move K5F (fun i _ ⟨q1,q2,q3⟩=>⟨hne i q1 q3,by omega,q2,q3⟩)⟩
      have hkw:zb [] w WF:=((Jf.o.then Gs.o).trans Jh.o (fun i hi=>by
       rcases List.mem_append.1 hi with hi | hi
       ·have:=(hblk.o i hi).1;exact .inr (by omega)
       ·have:=(hmblk.o i (Option.mem_toList.1 hi)).1;exact .inr (by omega))).trans KF (fun i hi=>by simp at hi;exact .inr (by omega))
      exact bodyPost_ret (v:=.agg #[.int .i64 v.kind,.int .i64 v.num,.string v.s,.slice al v.l.length cl,.slice am v.m.length cm]) (by simp [results,results189,go_sem,x0,x1,x2,x3,x4]) rfl ⟨⟨_,rfl,hown⟩,hkw⟩
theorem vF:∀ (n:Nat),jb n
 | 0=>fun v {_}{_}{_} h _ _=>h.elim
 | n + 1=>QF (vF n)
theorem sorted_any:∀ (n:Nat) (v:V n) {S:Nat→Prop}{w:World}{cs:List Value},Rep n S w cs v→yk n v→zo n v=true →
  Calls Tryz.prog 189 #[.agg cs.toArray] w fun e w'=>(∃ cs':List Value,e = .returned (.agg cs'.toArray)∧kP n w.heap.size w' cs' (zz n v))∧zb [] w w':=fun n=>vF n
theorem k7 {w:World}{g:Nat}{k m:Int}{s:ByteArray}{a b:Value}{t:Nat}{f:Nat × Nat}(h:w.heap[g]? = some (.cells #[.int .i64 k,.int .i64 m,.string s,a,b] t f)):qf w g k m s a b:=⟨za h rfl,za h rfl,za h rfl,za h rfl,za h rfl⟩
def vG (w:World) (g:Nat) (k m:Int) (s:ByteArray) (a b:Value):World:=((((w.setCell ⟨g,0,none⟩ (.int .i64 k)).setCell ⟨g,1,none⟩ (.int .i64 m)).setCell ⟨g,2,none⟩ (.string s)).setCell ⟨g,3,none⟩ a).setCell ⟨g,4,none⟩ b
theorem kN (w:World) (g:Nat) (k m:Int) (s:ByteArray) (a b:Value):zb [g] w (vG w g k m s a b):=by
 unfold vG
 exact (((((zb.refl [g] w).setCell (.inl (by simp)) _).setCell (.inl (by simp)) _).setCell (.inl (by simp)) _).setCell (.inl (by simp)) _).setCell (.inl (by simp)) _
theorem jU {w:World}{g:Nat}{c0 c1 c2 c3 c4:Value}{t:Nat}{f:Nat × Nat}(h:w.heap[g]? = some (.cells #[c0,c1,c2,c3,c4] t f)) (k m:Int) (s:ByteArray) (a b:Value):(vG w g k m s a b).heap[g]? = some (.cells #[.int .i64 k,.int .i64 m,.string s,a,b] t f):=by
 unfold vG
 have h1:=ze (i:=0) (v:=.int .i64 k) (d:=#[.int .i64 k,c1,c2,c3,c4]) h rfl
 have h2:=ze (i:=1) (v:=.int .i64 m) (d:=#[.int .i64 k,.int .i64 m,c2,c3,c4]) h1 rfl
 have h3:=ze (i:=2) (v:=.string s) (d:=#[.int .i64 k,.int .i64 m,.string s,c3,c4]) h2 rfl
 have h4:=ze (i:=3) (v:=a) (d:=#[.int .i64 k,.int .i64 m,.string s,a,c4]) h3 rfl
 have h5:=ze (i:=4) (v:=b) (d:=#[.int .i64 k,.int .i64 m,.string s,a,b]) h4 rfl
 exact h5
def ZG:Value:=.agg #[.int .i64 0,.int .i64 0,.string ⟨#[]⟩,.slice none 0 0,.slice none 0 0]
section
variable {n : Nat} {v : VS (V n)} {S : Nat → Prop} {w : World} {cs : List Value}
end
end Go.Proofs.YtibnfbglanpoiaaGreatDoor

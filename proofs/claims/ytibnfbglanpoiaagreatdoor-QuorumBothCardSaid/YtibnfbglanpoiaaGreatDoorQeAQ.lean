/- Parts of one proof, merged: XBS XBT XBW XEB. -/
import Derived.Test.YtibnfbglanpoiaaGreatDoorQeAM
import Derived.Test.YtibnfbglanpoiaaGreatDoorQeAH
import Derived.Test.YtibnfbglanpoiaaGreatDoorQeAP
import Derived.Lib.SlBytesConst
set_option linter.all false
set_option maxHeartbeats 12800000
set_option maxRecDepth 100000
namespace Go.Proofs.YtibnfbglanpoiaaGreatDoor
open Go.Proofs.Tryz
open Go.RowKit
attribute [local go_sem] Oper.semAt_some
def bq (w:World) (sg:Nat) (sa la:Option Addr) (sc lc mb j:Nat):Prop:=∃ n M,Sgn w sg sa la sc lc mb n M∧n≤j∧(∀ i:Nat,i<2→(M (.int .i64 i)).isSome=decide (i<j))∧∀ (i:Nat) v,M (.int .i64 i)=some v→∃ s,v = .string s
theorem bq.kept0 {w w':World}{sg:Nat}{sa la:Option Addr}{sc lc mb j:Nat}(h:bq w sg sa la sc lc mb j) (k:zb [] w w'):bq w' sg sa la sc lc mb j:=by
 obtain⟨n,M,h1,h2⟩:=h
 exact⟨n,M,h1.kept0 k,h2⟩
theorem bq.key {w:World}{sg:Nat}{sa la:Option Addr}{sc lc mb j:Nat}(h:bq w sg sa la sc lc mb j):qm w sg (.slice sa 1 sc) (.slice la 2 lc) (k8 xR) (.map (some mb)):=by
 obtain⟨n,M,h1,-⟩:=h
 exact h1.box
theorem Sgn.high {w w1 w2:World}{sg b:Nat}{sa la:Option Addr}{sc lc mb n n':Nat}{M M':Lit→Option Value}(h0:Sgn w sg sa la sc lc mb n M) (h:Sgn w1 sg sa la sc lc mb n' M') (k:zb [b] w1 w2) (hb:w.heap.size≤b):Sgn w2 sg sa la sc lc mb n' M':=
 ⟨k.heap h.box (by have:=lt_of_block h0.box;simp;omega),Slc.kept h.seed k (fun g hg hx=>by have:=Slc.lt h0.seed hg;simp at hx;omega),Slc.kept h.leaves k (fun g hg hx=>by have:=Slc.lt h0.leaves hg;simp at hx;omega),h.used.kept k (by have:=h0.used.lt;simp;omega)⟩
theorem bq.high {w w1 w2:World}{sg b:Nat}{sa la:Option Addr}{sc lc mb j i:Nat}(h0:bq w sg sa la sc lc mb j) (h:bq w1 sg sa la sc lc mb i) (k:zb [b] w1 w2) (hb:w.heap.size≤b):bq w2 sg sa la sc lc mb i:=by
 obtain⟨_,_,h1,-⟩:=h0
 obtain⟨n,M,h2,h3⟩:=h
 exact⟨n,M,h1.high h2 k hb,h3⟩
theorem sameInt (i j:Nat):(Lit.int .i64 (i:Int)).sameKey (.int .i64 j)=decide (i=j):=by
 simp only [Lit.sameKey,true_and]
 by_cases h:i=j
 ·rw [decide_eq_true h,decide_eq_true Ws]
 ·rw [decide_eq_false h,decide_eq_false Ws]
theorem setM_at (M:Lit→Option Value) (i j:Nat) (s:ByteArray):setM M j s (.int .i64 i)=if i=j then some (.string s) else M (.int .i64 i):=by
 unfold setM
 rw [sameInt]
 by_cases h:i=j <;> simp [h]
theorem sgrSign_any {w:World}{sg:Nat}{sa la:Option Addr}{sc lc mb j:Nat}(h:bq w sg sa la sc lc mb j) (hj:j<2) {am:Option Addr}{cm:Nat}{m:List UInt8}(hbm:zp w (.slice am m.length cm) m) (hml:m.length≤1048576) (hks:xN w) :
  Calls Tryz.prog 39 #[.pointer (some ⟨sg,0,none⟩),.slice am m.length cm] w fun e w'=>(∃ a1 c1 a2 c2 a3 c3,e = .returned (.tuple #[.agg #[.int .i64 j,.slice a1 8 c1,.slice a2 8 c2,.slice a3 1 c3],.int .i64 0])∧Slc w' 32 (.slice a1 8 c1) 8 ((yS j m).one.rev.flatten.map bv)∧Slc w' 32 (.slice a2 8 c2) 8 ((yS j m).one.oth.flatten.map bv)∧Slc w' 32 (.slice a3 1 c3) 1 ((yS j m).way.flatten.map bv))∧bq w' sg sa la sc lc mb (j+1)∧zb [mb] w w':=by
 have H0:=qI h
 obtain⟨n,M,hS,hn,hM,hMs⟩:=h
 obtain⟨W1,Gi⟩:∃ W1,Hid (W1=w.alloc (.cells #[.int .i64 0,.slice none 0 0,.slice none 0 0,.slice none 0 0] 82)):=⟨_,qI rfl⟩
 have Gj:Hid (zb [] w W1):=qI (kA1 Gi.o)
 have Jh:Hid (vu W1 w.heap.size 0 (.slice none 0 0) (.slice none 0 0) (.slice none 0 0)):=qI (by rw [Gi.o];exact zd rfl)
 have HH:=qI (hS.kept0 Gj.o)
 have CM:=qI (JK W1 sg am m.length cm hml)
 have CU:Hid (∀ i:Nat,i<2→Calls Tryz.prog 76 #[.pointer (some ⟨sg,0,none⟩),.int .i64 i] W1 fun e w'=>e = .returned (.bool (decide (i<j)))∧W1=w'):=qI (fun i hi=>by
  have h1:=used_any HH.o.box (yP _ _) HH.o.used i Ws (hMs i)
  rw [hM i hi] at h1
  exact h1)
 have CA:=qI (signAt_any HH.o Ws j hj (by
  have h1:=hM j hj
  cases h2:M (.int .i64 j) with
  | none=>rfl
  | some v=>rw [h2] at h1;simp at h1) (Slc.kept0 hbm Gj.o) hml (hks.kept0 Gj.o))
 have Md:Hid (∀ w' s,qJ Tryz.prog w' 3 mb (n+1) (setM M j s)→zb [mb] W1 w'→bq w' sg sa la sc lc mb (j+1)):=qI (fun w' s hm hk=>by
  refine⟨n+1,setM M j s,HH.o.mapped hk hm,Ws,fun i hi=>?_,fun i v hv=>?_⟩
  ·rw [setM_at]
   by_cases e:i=j
   ·rw [if_pos e];simp [e]
   ·rw [if_neg e,hM i hi]
    by_cases h1:i<j
    ·rw [decide_eq_true h1,decide_eq_true Ws]
    ·rw [decide_eq_false h1,decide_eq_false Ws]
  ·rw [setM_at] at hv
   split at hv
   ·exact⟨s,(Option.some.inj hv).symm⟩
   ·exact hMs i v hv)
 have Gu:Hid (mb<w.heap.size):=qI hS.used.lt
 have c1:=HH.o.box.c1
 have HJ:=qI hj
 clear hks hbm hml hS hn hM hMs hj
 generalize hmn:m.length=mn at CM CA ⊢
 clear hmn
 go_enter func39,ntmps39
 go_upto_region 1 with fail
 refine yq Gi.o ?_
 go_wp2_with (go_at_call 75;refine CM.o.mono ?_;rintro e w' ⟨rfl,rfl⟩)
 go_loopw [20] (fun idx wr=>∃ k:Nat,idx = .int .i64 k∧k≤j∧W1=wr) (fun idx _=>2-(intOf idx).toNat)
 case atStart=>exact⟨0,rfl,Nat.zero_le _,rfl⟩
 case round=>
  obtain⟨k,rfl,hk,rfl⟩:=hrel
  have hk2:k<2:=by have:=HJ.o;omega
  have hkI:(k:Int)<2:=Ws
  have CX:=qI (CU.o k hk2)
  rcases Nat.lt_or_ge k j with hlt | hge
  ·rw [decide_eq_true hlt] at CX
   have Mv:=qI hlt
   clear hlt hk hk2
   go_wp2_with (go_at_call 76;refine CX.o.mono ?_;rintro e w' ⟨rfl,rfl⟩)
   case roundEnd=>exact⟨⟨k+1,by go_num,Mv.o,trivial⟩,by have:=Mv.o;have:=HJ.o;simp [intOf];omega⟩
  ·obtain rfl:k=j:=by omega
   rw [decide_eq_false Ws] at CX
   clear hge hk hk2
   go_wp2_with first
    | (go_at_call 76;refine CX.o.mono ?_;rintro e w' ⟨rfl,rfl⟩)
    | (go_at_call 77;refine CA.o.mono ?_;rintro e w2 ⟨⟨a1,d1,a2,d2,a3,d3,rfl,hs1,hs2,hs3⟩,⟨s,hm⟩,hk2⟩;have Me:=qI hs1;have Jd:=qI hs2;have Ji:=qI hs3;have Yp:=qI hm;have Gv:=qI hk2;have Gq:=qI (hk2.heap Jh.o (by have:=Gu.o;simp;omega));have r0:=za (o:=0) Gq.o rfl;have r1:=za (o:=1) Gq.o rfl;have r2:=za (o:=2) Gq.o rfl;have r3:=za (o:=3) Gq.o rfl;have rz:∀ j,w2.frozen? ⟨w.heap.size,j,none⟩=false:=fun j=>zh Gq.o;clear hs1 hs2 hs3 hm hk2)
   change bodyPost _ _ _ _ _ (vE w2 w.heap.size k (.slice a1 8 d1) (.slice a2 8 d2) (.slice a3 1 d3))
   have Gk:=qS w2 w.heap.size k (.slice a1 8 d1) (.slice a2 8 d2) (.slice a3 1 d3)
   have Gl:=jE Gq.o k (.slice a1 8 d1) (.slice a2 8 d2) (.slice a3 1 d3)
   generalize vE w2 w.heap.size k (.slice a1 8 d1) (.slice a2 8 d2) (.slice a3 1 d3)=WF at Gk Gl
   have y0:=za (o:=0) Gl rfl
   have y1:=za (o:=1) Gl rfl
   have y2:=za (o:=2) Gl rfl
   have y3:=za (o:=3) Gl rfl
   have hall:∀ {v:Value}{q:Nat}{xs:List Value},Slc w2 32 v q xs→0<q→Slc WF 32 v q xs:=fun {v q xs} hs hq=>Slc.kept hs Gk (fun g hg hx=>by
    rw [List.mem_singleton] at hx
    subst hx
    exact Kk hs Gq.o (by simp;omega) hg)
   refine bodyPost_ret (v:=.tuple #[.agg #[.int .i64 k,.slice a1 8 d1,.slice a2 8 d2,.slice a3 1 d3],.int .i64 0]) (by simp [results,results39,go_sem,y0,y1,y2,y3]) rfl ?_
   exact⟨⟨a1,d1,a2,d2,a3,d3,rfl,hall Me.o Wo,hall Jd.o Wo,hall Ji.o Wo⟩,H0.o.high (Md.o _ _ Yp.o Gv.o) Gk (Nat.le_refl _),((Gj.o.mono Wz).trans' Gv.o).trans Gk (by intro b hb;rw [List.mem_singleton] at hb;subst hb;exact .inr (Nat.le_refl _))⟩
attribute [local go_sem] Oper.semAt_some
theorem Qv (j:Nat) (m:List UInt8):(yS j m).one.rev.length=8∧(yS j m).one.oth.length=8∧(yS j m).way.length=1∧yC (yS j m).one.rev∧yC (yS j m).one.oth∧yC (yS j m).way:=
 ⟨by simp [yS,jA],by simp [yS,jA],rfl,(signL_32 _ _ _ _).1,(signL_32 _ _ _ _).2,fun x hx=>by
  simp only [yS,List.mem_singleton] at hx
  subst hx
  unfold K0
  split <;> exact kJ _ _ _⟩
theorem bl (j:Nat) (m:List UInt8):(xO (yS j m)).length=548:=by
 obtain⟨h1,h2,h3,h4,h5,h6⟩:=Qv j m
 unfold xO
 rw [List.length_append,List.length_append,xu,QA h4 h5 Ws,h1,h6.flat,h3]
def QC (j:Nat) (m:List UInt8):yr:=⟨yh (k8 xR),qp (xO (yS j m))⟩
theorem tySigs:yU Tryz.prog 26 40 2 32 (.agg #[.string ByteArray.empty,.string ByteArray.empty]):=⟨underlying26,Wr,rfl,Wo⟩
theorem rows_one (l:List yr):∀ u∈ZF l,u.oneCell'=true:=by
 intro u hu
 unfold ZF at hu
 obtain⟨x,-,hx⟩:=List.mem_flatMap.1 hu
 simp only [yr.enc,List.mem_cons,List.not_mem_nil,or_false] at hx
 rcases hx with rfl | rfl <;> rfl
@[go_sem] theorem eqlNilRows (w:World) (a:Option Addr) (n c:Nat):(binOp .eql 26 (.slice a n c) (.slice none 0 0)).run Tryz.prog w = .ok (.bool a.isNone) w:=Lib.run_eql_slice_nil w _ _ a n c 0 0 underlying26
theorem cloneRows_any {w:World}{v:Value}{l:List yr}(h:q8 w v l) (hl:l.length≤1000000) :
  Calls Tryz.prog 42 #[v] w fun e w'=>(∃ a c,e = .returned (.slice a l.length c)∧w'.ownsRow w.heap.size 40 2 (.slice a l.length c) l.length (ZF l))∧zb [] w w':=by
 rcases h.2 with ⟨rfl,h0⟩ | h2
 ·have:l=[]:=List.eq_nil_of_length_eq_zero h0
  subst this
  go_enter func42,ntmps42
  go_wp2
  go_ret
  exact⟨⟨_,_,rfl,World.ownsRow_nil _ _ _ _⟩,Wd⟩
 ·obtain⟨ad,cap,rfl⟩:∃ ad cap,v = .slice (some ad) l.length cap:=by
   rcases h2 with ⟨h0,a,c,rfl,_⟩ | ⟨g,o,c,rfl,_⟩
   ·exact⟨a,c,by rw [h0]⟩
   ·exact⟨_,_,rfl⟩
  have h1:=(zb.refl [] w).alloc (.cells #[] 40)
  have hown:=vO (size:=2) (base:=w.heap.size) (t:=40) w rfl (Nat.le_refl _)
  have hsrc:=Slc.kept0 h h1
  go_enter func42,ntmps42
  go_wp2_with (at_builtin;refine zk tySigs hown hsrc (rows_one l) (by simp only [maxLen];omega) Ws Wz rfl _ _ rfl rfl rfl ?_;intro v' w1 hown1 hk1 _ hb1)
  rw [Nat.zero_add,List.nil_append] at hown1
  obtain⟨a',c',rfl,-,-⟩:=(Slc.of_row hown1).form
  go_ret
  exact⟨⟨_,_,rfl,hown1⟩,h1.trans hk1 (by simp [Value.ownBlock])⟩
def put6 (w:World) (g:Nat) (a b c d e f:Value):World:=(((((w.setCell ⟨g,0,none⟩ a).setCell ⟨g,1,none⟩ b).setCell ⟨g,2,none⟩ c).setCell ⟨g,3,none⟩ d).setCell ⟨g,4,none⟩ e).setCell ⟨g,5,none⟩ f
theorem put6_kept (w:World) (g:Nat) (a b c d e f:Value):zb [g] w (put6 w g a b c d e f):=((((((zb.refl [g] w).setCell (.inl Wz) _).setCell (.inl Wz) _).setCell (.inl Wz) _).setCell (.inl Wz) _).setCell (.inl Wz) _).setCell (.inl Wz) _
theorem put6_at {w:World}{g:Nat}{c0 c1 c2 c3 c4 c5:Value}{t:Nat}{z:Nat×Nat}(h:w.heap[g]? = some (.cells #[c0,c1,c2,c3,c4,c5] t z)) (a b c d e f:Value):(put6 w g a b c d e f).heap[g]? = some (.cells #[a,b,c,d,e,f] t z):=by
 unfold put6
 have h1:=zg (i:=0) (v:=a) (d:=#[a,c1,c2,c3,c4,c5]) h rfl
 have h2:=zg (i:=1) (v:=b) (d:=#[a,b,c2,c3,c4,c5]) h1 rfl
 have h3:=zg (i:=2) (v:=c) (d:=#[a,b,c,c3,c4,c5]) h2 rfl
 have h4:=zg (i:=3) (v:=d) (d:=#[a,b,c,d,c4,c5]) h3 rfl
 have h5:=zg (i:=4) (v:=e) (d:=#[a,b,c,d,e,c5]) h4 rfl
 exact zg (i:=5) (v:=f) (d:=#[a,b,c,d,e,f]) h5 rfl
abbrev EnvAt (w:World) (g:Nat) (k m:Int) (s:ByteArray) (a b c:Value):Prop:=w.heap[g]? = some (.cells #[.int .i64 k,.int .i64 m,.string s,a,b,c] 28 (0,0))
theorem rowsL_snoc (l:List yr) (r:yr):ZF (l++[r])=ZF l++r.enc:=by simp [ZF]
theorem Slc.mapped {w w':World}{size n mb:Nat}{v:Value}{xs:List Value}(h:Slc w size v n xs) (hz:0<size) (hm:kind w mb=1) (k:zb [mb] w w'):Slc w' size v n xs:=Slc.kept h k (fun g hg hx=>by
 rw [List.mem_singleton] at hx
 subst hx
 obtain⟨a,c,rfl,-,-⟩:=h.form
 refine ZS h (fun e=>?_) hg hm
 have h1:=h.1
 rw [e] at h1
 have h2:=(jo hg).1
 have:0<n*size:=Nat.mul_pos h2 hz
 simp at h1
 omega)
theorem bq.lt {w:World}{sg:Nat}{sa la:Option Addr}{sc lc mb j:Nat}(h:bq w sg sa la sc lc mb j):mb<w.heap.size∧kind w mb=1:=by
 obtain⟨_,_,h1,-⟩:=h
 exact⟨h1.used.lt,h1.used.kind⟩
theorem sgnSign_any {W0:World}(ht0:qC W0) (hks0:xN W0) {n:Nat}{S:Nat→Prop}{w:World}(hk0:zb [] W0 w) {cs:List Value}{v:V n}{a:Option Addr}{c:Nat}{l:List yr}(h:Env n S w cs v a c l) (hm:yj n v l=true) (hl:l.length≤2) {sg:Nat}{sa la:Option Addr}{sc lc mb j:Nat}(hs:bq w sg sa la sc lc mb j) (hmb:W0.heap.size≤mb) (hS:¬ S mb) (hj:j<2) :
  Calls Tryz.prog 17 #[.agg (vG cs a l.length c).toArray,.pointer (some ⟨sg,0,none⟩)] w fun e w'=>(∃ kd nm st p1 i1 d1 p2 i2 d2 a' c',e = .returned (.tuple #[.agg #[.int .i64 kd,.int .i64 nm,.string st,.slice p1 i1 d1,.slice p2 i2 d2,.slice a' (l.length+1) c'],.int .i64 0])∧Env n (fun g=>w.heap.size≤g) w' [.int .i64 kd,.int .i64 nm,.string st,.slice p1 i1 d1,.slice p2 i2 d2] v a' c' (l++[QC j (xx n v l)]))∧bq w' sg sa la sc lc mb (j+1)∧zb [mb] w w':=by
 obtain⟨kd,nm,st,p1,i1,d1,p2,i2,d2,rfl⟩:=h.rep.conv
 obtain⟨W1,Gi⟩:∃ W1,Hid (W1=(w.alloc (.cells #[.int .i64 kd,.int .i64 nm,.string st,.slice p1 i1 d1,.slice p2 i2 d2,.slice a l.length c] 28)).alloc (.cells #[.int .i64 0,.int .i64 0,.string ⟨#[]⟩,.slice none 0 0,.slice none 0 0,.slice none 0 0] 28)):=⟨_,qI rfl⟩
 have Gj:Hid (zb [] w W1):=qI (kA2 Gi.o)
 have Gm:Hid (EnvAt W1 w.heap.size kd nm st (.slice p1 i1 d1) (.slice p2 i2 d2) (.slice a l.length c)):=qI (by rw [Gi.o];exact ((zb.refl [] _).alloc _).heap (zd rfl) Wz)
 have Mf:Hid (EnvAt W1 (w.heap.size+1) 0 0 ⟨#[]⟩ (.slice none 0 0) (.slice none 0 0) (.slice none 0 0)):=qI (by rw [Gi.o];exact zd Wz)
 have Mg:Hid (∀ w2,zb [mb] W1 w2→qC w2∧xN w2):=qI (fun w2 hk=>by
  have h1:zb [] W0 w2:=(hk0.then Gj.o).trans hk (by intro i hi;rw [List.mem_singleton] at hi;subst hi;exact .inr hmb)
  exact⟨ht0.kept0 h1,hks0.kept0 h1⟩)
 have HE:=qI (h.kept0 Gj.o)
 have Mw:=qI (hs.kept0 Gj.o)
 have Yq:=qI hs
 have Gu:=qI hs.lt.1
 have Yr:Hid (kind W1 mb=1):=qI Mw.o.lt.2
 have Mh:=qI (Mg.o W1 Wd)
 have CM:Hid (Cz W1 25 #[.agg #[.int .i64 kd,.int .i64 nm,.string st,.slice p1 i1 d1,.slice p2 i2 d2,.slice a l.length c]] (.bool true)):=qI (by have h1:=bR HE.o Mh.o.1;rw [hm] at h1;exact h1)
 have CB:Hid (∀ w2,zb [] W1 w2→Calls Tryz.prog 40 #[.agg #[.int .i64 kd,.int .i64 nm,.string st,.slice p1 i1 d1,.slice p2 i2 d2,.slice a l.length c]] w2 fun e w'=>(∃ q d,e = .returned (.slice q (xx n v l).length d)∧zp w' (.slice q (xx n v l).length d) (xx n v l))∧zb [] w2 w'):=qI (fun w2 hk=>by have h1:=body_any (HE.o.kept0 hk) (Mh.o.1.kept0 hk);exact h1)
 have Mx:Hid ((xx n v l).length≤1048576):=qI (Qr n v l)
 generalize hB:xx n v l=B at CB Mx ⊢
 have CS:Hid (∀ w2 q d,zb [] W1 w2→zp w2 (.slice q B.length d) B→Calls Tryz.prog 39 #[.pointer (some ⟨sg,0,none⟩),.slice q B.length d] w2 _):=qI (fun w2 q d hk hb=>sgrSign_any (Mw.o.kept0 hk) hj hb Mx.o (Mh.o.2.kept0 hk))
 obtain⟨f1,f2,f3,f4,f5,f6⟩:=Qv j B
 have CE:Hid (∀ w2 a1 c1 a2 c2 a3 c3,Slc w2 32 (.slice a1 8 c1) 8 ((yS j B).one.rev.flatten.map bv)→Slc w2 32 (.slice a2 8 c2) 8 ((yS j B).one.oth.flatten.map bv)→Slc w2 32 (.slice a3 1 c3) 1 ((yS j B).way.flatten.map bv)→Calls Tryz.prog 41 #[.agg #[.int .i64 j,.slice a1 8 c1,.slice a2 8 c2,.slice a3 1 c3]] w2 fun e w'=>(∃ a c,e = .returned (.tuple #[.slice a 548 c,.int .i64 0])∧zp w' (.slice a 548 c) (xO (yS j B)))∧zb [] w2 w'):=qI (fun w2 a1 c1 a2 c2 a3 c3 h1 h2 h3=>by
  have h9:=zac (s:=yS j B) (by show j≤_;omega) f1 f2 f3 Wo f4 f5 f6 h1 h2 h3 Wo
  rw [bl] at h9
  exact h9)
 have CC:Hid (∀ w2,zb [mb] W1 w2→Calls Tryz.prog 42 #[.slice a l.length c] w2 _):=qI (fun w2 hk=>cloneRows_any (Slc.mapped HE.o.rows Wo Yr.o hk) Ws)
 have CP:Hid (∀ w2,bq w2 sg sa la sc lc mb (j+1)→Calls Tryz.prog 19 #[.pointer (some ⟨sg,0,none⟩)] w2 fun e w'=>e = .returned (.agg (ye (k8 xR)))∧zb [] w2 w'):=qI (fun w2 h1=>JP h1.key (yP _ _))
 have CI:Hid (∀ w2,zb [mb] W1 w2→Calls Tryz.prog 43 #[.agg (ye (k8 xR))] w2 fun e w'=>e = .returned (.string (yh (k8 xR)))∧zb [] w2 w'):=qI (fun w2 h1=>QB (k8 xR) (by constructor <;> decide) (yP _ _) w2 (Mg.o w2 h1).1 (Mg.o w2 h1).2)
 have CX:Hid (∀ w2 q d,zp w2 (.slice q 548 d) (xO (yS j B))→Calls Tryz.prog 44 #[.slice q 548 d] w2 fun e w'=>e = .returned (.string (qp (xO (yS j B))))∧zb [] w2 w'):=qI (fun w2 q d h1=>by
  have hl5:=bl j B
  have h9:=Ko (w:=w2) (a:=q) (c:=d) (l:=xO (yS j B)) (by rw [hl5];exact h1) (by rw [hl5];decide) (by intro e;rw [e] at hl5;cases hl5)
  rw [hl5] at h9
  exact h9)
 have CV:Hid (∀ w2,zb [mb] W1 w2→Calls Tryz.prog 45 #[.agg #[.int .i64 kd,.int .i64 nm,.string st,.slice p1 i1 d1,.slice p2 i2 d2]] w2 fun e w'=>(∃ kd nm st p1 i1 d1 p2 i2 d2,e = .returned (.agg #[.int .i64 kd,.int .i64 nm,.string st,.slice p1 i1 d1,.slice p2 i2 d2])∧Rep n (fun g=>w.heap.size≤g∧g≠w.heap.size+1) w' [.int .i64 kd,.int .i64 nm,.string st,.slice p1 i1 d1,.slice p2 i2 d2] v)∧zb [] w2 w'):=qI (fun w2 hk=>by
  have h1:Rep n S w2 [.int .i64 kd,.int .i64 nm,.string st,.slice p1 i1 d1,.slice p2 i2 d2] v:=HE.o.rep.kept hk (by intro k hk;rw [List.mem_singleton] at hk;rw [hk];exact hS)
  refine (clone_any n v h1 HE.o.small).mono (fun e w' h9=>?_)
  obtain⟨⟨cs',rfl,ho⟩,hk'⟩:=h9
  have h2:=Rep.mono (T:=fun g=>w.heap.size≤g∧g≠w.heap.size+1) ho.rep (fun g _ hg=>by
   have h3:=hk.size
   have h4:=lt_of_block Mf.o
   exact⟨Ws,Ws⟩)
  obtain⟨k,m,s,p,i,c,q,j,d,rfl⟩:=h2.conv
  exact⟨⟨k,m,s,p,i,c,q,j,d,rfl,h2⟩,hk'⟩)
 have Jj:Hid (QC j B=⟨yh (k8 xR),qp (xO (yS j B))⟩):=qI rfl
 have Jo:Hid ((yh (k8 xR)).size=64∧(qp (xO (yS j B))).size=1096):=qI ⟨Kw rfl,by rw [kI,bl]⟩
 have Ys:=qI hl
 have hlI:(l.length:Int)≤2:=Ws
 clear h hm hs hl f1 f2 f3 f4 f5 f6 ht0 hks0 hk0
 generalize xO (yS j B)=code at CE CX Jj Jo
 generalize qp code=hx at CX Jj Jo
 generalize yh (k8 xR)=idk at CI Jj Jo
 generalize QC j B=rw' at Jj ⊢
 generalize k8 xR=kk at CP CI
 generalize hml:l.length=m at Gi Gm CM CB CC hlI ⊢
 have HM:=qI hml
 clear hml
 obtain⟨c0,c1,c2',c3,c4,c5⟩:=xT Gm.o
 show Calls _ _ #[.agg #[.int .i64 kd,.int .i64 nm,.string st,.slice p1 i1 d1,.slice p2 i2 d2,.slice a m c],.pointer (some ⟨sg,0,none⟩)] _ _
 go_enter func17,ntmps17
 go_upto_region 1 with fail
 refine yq Gi.o ?_
 go_upto_region 5 with (go_at_call 25;refine CM.o.mono ?_;rintro e w2 ⟨rfl,hk2⟩;have Gv:=qI hk2;have y0:=hk2.cell c0 Wz;have y1:=hk2.cell c1 Wz;have y2:=hk2.cell c2' Wz;have y3:=hk2.cell c3 Wz;have y4:=hk2.cell c4 Wz;have y5:=hk2.cell c5 Wz;clear hk2 c0 c1 c2' c3 c4 c5)
 have Jk:Hid (w.heap.size ∉ [mb]):=qI (by have:=Gu.o;simp;omega)
 go_upto_region 6 with first
  | (go_at_call 39;refine (CS.o _ _ _ Jl.o Yt.o).mono ?_;rintro e w4 ⟨⟨a1,e1,a2,e2,a3,e3,rfl,hs1,hs2,hs3⟩,hsj,hk4⟩;have Me:=qI hs1;have Jd:=qI hs2;have Ji:=qI hs3;have Mi:=qI hsj;have Jp:Hid (zb [mb] W1 w4):=qI ((Jl.o.mono Wz).trans' hk4);clear hs1 hs2 hs3 hsj hk4)
  | (go_at_call 40;refine (CB.o _ Gv.o).mono ?_;rintro e w3 ⟨⟨q,d,rfl,hb3⟩,hk3⟩;have Yt:=qI hb3;have Jl:=qI (Gv.o.then hk3);clear hb3 hk3 y0 y1 y2 y3 y4 y5)
 obtain⟨W5,Mj⟩:∃ W5,Hid (W5=w4.alloc (.cells #[.int .i64 j,.slice a1 8 e1,.slice a2 8 e2,.slice a3 1 e3] 82)):=⟨_,qI rfl⟩
 have Gr:Hid (zb [] w4 W5):=qI (kA1 Mj.o)
 have Jw:Hid (vu W5 w4.heap.size j (.slice a1 8 e1) (.slice a2 8 e2) (.slice a3 1 e3)):=qI (by rw [Mj.o];exact zd rfl)
 refine yq Mj.o ?_
 have Je:Hid (zb [mb] W1 W5):=qI (Jp.o.then Gr.o)
 have Mk:=qI (Mi.o.kept0 Gr.o)
 have s0:=za (o:=0) Jw.o rfl
 have s1:=za (o:=1) Jw.o rfl
 have s2:=za (o:=2) Jw.o rfl
 have s3:=za (o:=3) Jw.o rfl
 have CE5:=qI (CE.o W5 a1 e1 a2 e2 a3 e3 (Slc.kept0 Me.o Gr.o) (Slc.kept0 Jd.o Gr.o) (Slc.kept0 Ji.o Gr.o))
 go_upto_region 11 with (go_at_call 41;refine CE5.o.mono ?_;rintro e w6 ⟨⟨a6,c6,rfl,hb6⟩,hk6⟩;have Yu:=qI hb6;have Jb:Hid (zb [mb] W1 w6):=qI (Je.o.then hk6);have Jq:=qI (Mk.o.kept0 hk6);have z5:=(Je.o.then hk6).cell (za (o:=5) Gm.o rfl) Jk.o;clear hb6 hk6 s0 s1 s2 s3)
 go_upto_region 12 with first
  | (at_builtin;refine zk tySigs (m:=1) (news:=[.string idk,.string hx]) (zo My.o (Gs.o.alloc (.cells #[.string idk,.string hx] 40)) Wz) (zT w10 [.string idk,.string hx] 2 1 _ _ rfl rfl Wo) (by simp [Value.oneCell']) (by simp only [maxLen];omega) Ws (by have:=Gs.o.size;have:=Ml.o;simp;omega) rfl _ _ rfl rfl rfl ?_;intro v11 w11 hown hk11 _ _;obtain⟨a11,c11,rfl,-,-⟩:=(Slc.of_row hown).form;have Jr:=qI hown;have Gw:Hid (zb [] w6 w11):=qI ((Js.o.then (Gs.o.alloc _)).trans hk11 (fun i hi=>.inr (My.o.lt i (Option.mem_toList.1 hi)).1));clear hown hk11)
  | (go_at_call 44;refine (CX.o _ _ _ (Slc.kept0 Yu.o (Js.o.then Jt.o))).mono ?_;rintro e w10 ⟨rfl,hk10⟩;have Gs:=qI (Jt.o.then hk10);clear hk10)
  | (go_at_call 43;refine (CI.o _ (Mm.o.then Ju.o)).mono ?_;rintro e w9 ⟨rfl,hk9⟩;have Jt:=qI (Ju.o.then hk9);clear hk9)
  | (go_at_call 19;refine (CP.o _ Mn.o).mh ?_;rintro e w8 rfl Ju)
  | (go_at_call 42;refine (CC.o _ Jb.o).mono ?_;rintro e w7 ⟨⟨a7,c7,rfl,ho7⟩,hk7⟩;have My:=qI ho7;have Js:=qI hk7;have Mm:Hid (zb [mb] W1 w7):=qI (Jb.o.then hk7);have Mn:=qI (Jq.o.kept0 hk7);have Ml:=qI hk7.size;clear ho7 hk7 z5)
 have Ga:Hid (zb [mb] W1 w11):=qI (Jb.o.then Gw.o)
 have Yv:Hid (w.heap.size+1 ∉ [mb]):=qI (by have:=Gu.o;simp;omega)
 have x0:=Ga.o.cell (za (o:=0) Gm.o rfl) Jk.o
 have x1:=Ga.o.cell (za (o:=1) Gm.o rfl) Jk.o
 have x2:=Ga.o.cell (za (o:=2) Gm.o rfl) Jk.o
 have x3:=Ga.o.cell (za (o:=3) Gm.o rfl) Jk.o
 have x4:=Ga.o.cell (za (o:=4) Gm.o rfl) Jk.o
 go_wp2_with (go_at_call 45;refine (CV.o _ Ga.o).mono ?_;rintro e w12 ⟨⟨kd',nm',st',q1,j1,h1,q2,j2,h2,rfl,hrep⟩,hk12⟩;have Mo:=qI hrep;have Gb:=qI hk12;have Gd:=qI ((Ga.o.then hk12).heap Mf.o Yv.o);have r0:=za (o:=0) Gd.o rfl;have r1:=za (o:=1) Gd.o rfl;have r2:=za (o:=2) Gd.o rfl;have r3:=za (o:=3) Gd.o rfl;have r4:=za (o:=4) Gd.o rfl;have r5:=za (o:=5) Gd.o rfl;have rz:∀ j,w12.frozen? ⟨w.heap.size+1,j,none⟩=false:=fun j=>zh Gd.o;clear hrep hk12 x0 x1 x2 x3 x4)
 change bodyPost _ _ _ _ _ (put6 w12 (w.heap.size+1) (.int .i64 kd') (.int .i64 nm') (.string st') (.slice q1 j1 h1) (.slice q2 j2 h2) (.slice a11 (m+1) c11))
 have Gk:=put6_kept w12 (w.heap.size+1) (.int .i64 kd') (.int .i64 nm') (.string st') (.slice q1 j1 h1) (.slice q2 j2 h2) (.slice a11 (m+1) c11)
 have Gl:=put6_at Gd.o (.int .i64 kd') (.int .i64 nm') (.string st') (.slice q1 j1 h1) (.slice q2 j2 h2) (.slice a11 (m+1) c11)
 generalize put6 w12 (w.heap.size+1) (.int .i64 kd') (.int .i64 nm') (.string st') (.slice q1 j1 h1) (.slice q2 j2 h2) (.slice a11 (m+1) c11)=WF at Gk Gl
 obtain⟨y0,y1,y2,y3,y4,y5⟩:=xT Gl
 refine bodyPost_ret (v:=.tuple #[.agg #[.int .i64 kd',.int .i64 nm',.string st',.slice q1 j1 h1,.slice q2 j2 h2,.slice a11 (m+1) c11],.int .i64 0]) (by simp [results,results17,go_sem,y0,y1,y2,y3,y4,y5]) rfl ?_
 have hw6:w.heap.size+1<w6.heap.size:=by have h3:=lt_of_block Mf.o;have:=Jb.o.size;omega
 have hlen:(l++[rw']).length=m+1:=by rw [List.length_append,HM.o];rfl
 refine⟨⟨kd',nm',st',q1,j1,h1,q2,j2,h2,a11,c11,rfl,?_,HE.o.small,HE.o.deep,?_,?_,?_⟩,Yq.o.high ((Jq.o.kept0 Gw.o).kept0 Gb.o) Gk Ws,?_⟩
 ·exact Mo.o.move Gk (fun g _ hg=>⟨by rw [List.mem_singleton];exact hg.2,hg.1⟩)
 ·have h9:=Slc.of_row Jr.o
  unfold q8
  rw [rowsL_snoc,hlen]
  have h8:(rw').enc=[.string idk,.string hx]:=by rw [Jj.o];rfl
  rw [h8]
  refine Slc.kept (Slc.kept0 h9 Gb.o) Gk (fun g hg hx=>?_)
  rw [List.mem_singleton] at hx
  have:=(Jr.o.lt g (z6 hg)).1
  omega
 ·intro r hr
  rcases List.mem_append.1 hr with h9 | h9
  ·exact HE.o.texts r h9
  ·rw [List.mem_singleton] at h9
   rw [h9,Jj.o]
   exact⟨by show idk.size≤_;have:=Jo.o.1;omega,by show hx.size≤_;have:=Jo.o.2;omega⟩
 ·have:=Ys.o;rw [hlen];have:=HM.o;omega
 ·exact (((Gj.o.mono Wz).trans' Ga.o).then Gb.o).trans Gk (by intro b hb;rw [List.mem_singleton] at hb;subst hb;exact .inr Ws)
theorem sigQ_code (j:Nat) (hj:j<2) (m:List UInt8):jG ((xO (yS j m)).take 4)=j∧xS 8 1 (xO (yS j m))=yS j m:=by
 obtain⟨h1,h2,h3,h4,h5,h6⟩:=Qv j m
 have ho:(jn (yS j m).one).length=512:=by rw [QA h4 h5 Ws,h1]
 have hw:(yS j m).way.flatten.length=32:=by rw [h6.flat,h3]
 have hp:(qP j 4).length=4:=xu _ _
 have e0:xO (yS j m)=qP j 4++(jn (yS j m).one++(yS j m).way.flatten):=by unfold xO;rw [List.append_assoc];rfl
 have e1:(xO (yS j m)).take 4=qP j 4:=by rw [e0,List.take_left' hp]
 have e2:(xO (yS j m)).drop 4=jn (yS j m).one++(yS j m).way.flatten:=by rw [e0,List.drop_left' hp]
 have e3:(xO (yS j m)).drop 516=(yS j m).way.flatten:=by
  rw [show 516=4+512 from rfl,← List.drop_drop,e2,List.drop_left' ho]
 have hn:jG (qP j 4)=j:=by
  have:j=0∨j=1:=Ws
  rcases this with rfl | rfl <;> decide
 refine⟨by rw [e1,hn],?_⟩
 unfold xS
 have e4:((xO (yS j m)).drop 4).take (64*8)=jn (yS j m).one:=by rw [e2,List.take_left' ho]
 have e5:((xO (yS j m)).drop (4+64*8)).take (32*1)=(yS j m).way.flatten:=by
  rw [show 4+64*8=516 from rfl,e3,List.take_of_length_le Ws]
 have e6:=dec_code h4 h5 Ws
 rw [h1] at e6
 have e7:=Qz 32 (yS j m).way h6
 rw [h3] at e7
 rw [e1,hn,e4,e5,e6,e7]
 rfl
theorem good_sigQ (j:Nat) (hj:j<2) (m:List UInt8):Z5 (k8 xR) m (xO (yS j m))=true:=by
 obtain⟨h1,h2⟩:=sigQ_code j hj m
 have hl:=bl j m
 have e:Z5 (k8 xR) m (xO (yS j m))=(zI (k8 xR)&&(qZ 8 1 (xO (yS j m))&&Z3 xR m (xS 8 1 (xO (yS j m))))):=rfl
 have hv:Z3 xR m (yS j m)=true:=by
  unfold Z3
  rw [Bool.and_eq_true,decide_eq_true_eq,decide_eq_true_eq]
  refine⟨hj,?_⟩
  have hi:xG m (yS j m).one=kU j:=impl_sign [113] j 8 m
  rw [hi]
  have:j=0∨j=1:=Ws
  rcases this with rfl | rfl <;> rfl
 rw [e,h2,hv,Bool.and_true,Bool.and_eq_true]
 refine⟨rfl,?_⟩
 unfold qZ
 rw [hl,h1,Bool.and_eq_true,decide_eq_true_eq,decide_eq_true_eq]
 exact⟨rfl,Ws⟩
theorem Zq {k:zY}(h:zI k=true):qo (yh k)=true:=by
 unfold qo yh
 rw [if_pos h,bI]
 simp [yt]
def vQ:V 1:=(⟨6,0,⟨#[]⟩,[],[]⟩:VS (V 0))
def mQ:List UInt8:=xx 1 vQ []
def idQ:ByteArray:=yh (k8 xR)
def idO:ByteArray:=yh k0
def keysQ:List xW:=[⟨idQ,k8 xR⟩]
def l1Q:List yr:=[QC 0 mQ]
def l2Q:List yr:=[QC 0 mQ,QC 1 mQ]
def JB:qz:=⟨[idQ],1⟩
def twoQ:qz:=⟨[idO,idQ],2⟩
theorem mayQ:zI (k8 xR)=true∧zI k0=true:=⟨rfl,rfl⟩
theorem row_ok (j:Nat) (m:List UInt8):yX (QC j m)=true:=by
 unfold yX
 rw [Bool.and_eq_true,Bool.and_eq_true,decide_eq_true_eq]
 refine⟨Zq mayQ.1,?_,?_⟩
 ·show (yJ (qp (xO (yS j m)))).isSome=true
  rw [bI];rfl
 ·show (qp (xO (yS j m))).size≤1048576
  rw [kI,bl];decide
theorem env_ok (l:List yr) (hl:l.length≤16) (ha:l.all yX=true):yj 1 vQ l=true:=by
 unfold yj
 rw [ha,decide_eq_true hl]
 rfl
theorem env1:yj 1 vQ l1Q=true:=env_ok _ Wo (by simp [l1Q,row_ok])
theorem env2:yj 1 vQ l2Q=true:=env_ok _ Wo (by simp [l2Q,row_ok])
theorem body_ok {l:List yr}(h:yj 1 vQ l=true):xx 1 vQ l=mQ:=by
 unfold mQ
 exact bodyB_ext (by rw [h,env_ok [] Wo rfl])
theorem holds_ok {l:List yr}(h:yj 1 vQ l=true) (j:Nat) (hj:j<2):qg 1 vQ l (QC j mQ) (k8 xR)=true:=by
 unfold qg
 rw [h,body_ok h,Bool.true_and,Bool.and_eq_true,decide_eq_true_eq]
 refine⟨rfl,?_⟩
 show Z5 _ _ ((yJ (qp (xO (yS j mQ)))).getD [])=true
 rw [bI]
 exact good_sigQ j hj mQ
theorem idQ_ne:idQ≠Y2:=fun e=>by
 have h:=Zq mayQ.1
 rw [show yh (k8 xR)=Y2 from e] at h
 exact absurd h Wo
theorem find_own (id:ByteArray) (k:zY):qG [⟨id,k⟩] id=some ⟨id,k⟩:=by simp [qG]
theorem find_oth {id o:ByteArray}(k:zY) (h:id≠o):qG [⟨id,k⟩] o=none:=by simp [qG,h]
theorem signs_gen {n:Nat}{v:V n}{l:List yr}{id:ByteArray}{k:zY}(hne:id≠Y2) (hid:yh k=id) {r:yr}(hr:r∈l) (hri:r.id=id) (hh:qg n v l r k=true):xo n v l [⟨id,k⟩] id=true:=by
 unfold xo
 rw [find_own]
 simp only [Bool.and_eq_true,Bool.not_eq_true',decide_eq_false_iff_not,decide_eq_true_eq,List.any_eq_true]
 refine⟨hne,hid,r,hr,?_⟩
 unfold z7
 rw [hh,Bool.and_true,decide_eq_true_eq]
 exact hri
theorem signs_oth {n:Nat}{v:V n}{l:List yr}{id o:ByteArray}{k:zY}(h:id≠o):xo n v l [⟨id,k⟩] o=false:=by
 unfold xo
 rw [find_oth k h]
theorem rowQ_id (j:Nat) (m:List UInt8):(QC j m).id=idQ:=by unfold QC idQ;rfl
theorem KD {l:List yr}(h:yj 1 vQ l=true) (hr:QC 0 mQ∈l):xo 1 vQ l keysQ idQ=true:=
 signs_gen idQ_ne (by unfold idQ;rfl) hr (rowQ_id 0 mQ) (holds_ok h 0 Wo)
theorem idQ_neO:idQ≠idO:=by unfold idQ idO;exact ids_differ
theorem signs_other (l:List yr):xo 1 vQ l keysQ idO=false:=signs_oth idQ_neO
theorem signs_none (l:List yr) (id:ByteArray):xo 1 vQ l [] id=false:=rfl
theorem role1:yu JB=true:=by
 have h:=Zq mayQ.1
 unfold yu
 simp only [Bool.and_eq_true,decide_eq_true_eq]
 refine⟨Wo,Wo,Wo,(QE _ _).2 ⟨fun k hk=>⟨?_,Wz⟩,by simp [JB]⟩⟩
 rw [show k=idQ by simpa [JB] using hk]
 exact h
theorem role2:yu twoQ=true:=by
 have h:=Zq mayQ.1
 have h2:=Zq mayQ.2
 unfold yu
 simp only [Bool.and_eq_true,decide_eq_true_eq]
 refine⟨Wo,Wo,Wo,(QE _ _).2 ⟨fun k hk=>⟨?_,Wz⟩,?_⟩⟩
 ·have hk2:k=idO∨k=idQ:=by simpa [twoQ] using hk
  rcases hk2 with rfl | rfl
  ·exact h2
  ·exact h
 ·simp only [twoQ,List.nodup_cons,List.mem_singleton,List.not_mem_nil,not_false_eq_true,List.nodup_nil,and_self,and_true]
  exact fun e=>idQ_neO e.symm
theorem valid1:zU 1 vQ l1Q JB keysQ=[idQ]:=by
 unfold zU
 rw [if_pos ⟨role1,env1⟩]
 simp [JB,KD env1 (by simp [l1Q])]
theorem valid2 {l:List yr}(h:yj 1 vQ l=true) (hr:QC 0 mQ∈l):zU 1 vQ l twoQ keysQ=[idQ]:=by
 unfold zU
 rw [if_pos ⟨role2,h⟩]
 simp [twoQ,KD h hr,signs_other]
theorem valid0:zU 1 vQ l1Q JB []=[]:=by
 unfold zU
 rw [if_pos ⟨role1,env1⟩]
 simp [JB,signs_none]
theorem miss1:jy JB 1=0:=by unfold jy;rw [if_pos role1];rfl
theorem miss2:jy twoQ 1=1:=by unfold jy;rw [if_pos role2];rfl
theorem miss0:jy JB 0=1:=by unfold jy;rw [if_pos role1];rfl
theorem enough1:yN JB 1=0:=by unfold yN;rw [miss1];rfl
theorem enough2:yN twoQ 1=180:=by unfold yN;rw [miss2];rfl
theorem enough0:yN JB 0=180:=by unfold yN;rw [miss0];rfl
attribute [local go_sem] Oper.semAt_some
theorem repQ (S:Nat→Prop) (w:World):Rep 1 S w [.int .i64 6,.int .i64 0,.string ⟨#[]⟩,.slice none 0 0,.slice none 0 0] vQ:=Ql S w (vQ:VS (V 0)) rfl rfl (Kd (i:=6) Wo Wo) (Kd (i:=0) Wo Wo)
theorem envQ0 (w:World):Env 1 (fun _=>False) w [.int .i64 6,.int .i64 0,.string ⟨#[]⟩,.slice none 0 0,.slice none 0 0] vQ none 0 []:=
 ⟨repQ _ w,⟨Wo,Wo⟩,Wo,yV _ _,fun _ h=>(nomatch h),Wo⟩
theorem Env.mapped {n:Nat}{S:Nat→Prop}{w w':World}{cs:List Value}{v:V n}{a:Option Addr}{c mb:Nat}{l:List yr}(h:Env n S w cs v a c l) (hS:¬ S mb) (hm:kind w mb=1) (k:zb [mb] w w'):Env n S w' cs v a c l:=
 ⟨h.rep.kept k (fun g hg=>by rw [List.mem_singleton] at hg;rw [hg];exact hS),h.small,h.deep,Slc.mapped h.rows Wo hm k,h.texts,h.few⟩
theorem texts_new (w:World) (xs:List ByteArray) (t:Nat) (hm:xs.length≤maxLen):xJ (w.alloc (.cells (xs.map Value.string).toArray t)) (.slice (some ⟨w.heap.size,0,none⟩) xs.length xs.length) xs:=zT w (xs.map Value.string) 1 xs.length _ _ rfl Wz hm
theorem signQ_any {W0:World}(ht0:qC W0) (hks0:xN W0) {S:Nat→Prop}{w:World}(hk0:zb [] W0 w) {cs:List Value}{a:Option Addr}{c:Nat}{l:List yr}(h:Env 1 S w cs vQ a c l) (hm:yj 1 vQ l=true) (hl:l.length≤2) {sg:Nat}{sa la:Option Addr}{sc lc mb j:Nat}(hs:bq w sg sa la sc lc mb j) (hmb:W0.heap.size≤mb) (hS:¬ S mb) (hj:j<2) :
  Calls Tryz.prog 17 #[.agg (vG cs a l.length c).toArray,.pointer (some ⟨sg,0,none⟩)] w fun e w'=>(∃ kd nm st p1 i1 d1 p2 i2 d2 a' c',e = .returned (.tuple #[.agg #[.int .i64 kd,.int .i64 nm,.string st,.slice p1 i1 d1,.slice p2 i2 d2,.slice a' (l.length+1) c'],.int .i64 0])∧Env 1 (fun g=>w.heap.size≤g) w' [.int .i64 kd,.int .i64 nm,.string st,.slice p1 i1 d1,.slice p2 i2 d2] vQ a' c' (l++[QC j mQ]))∧bq w' sg sa la sc lc mb (j+1)∧zb [mb] w w':=by
 have h1:=sgnSign_any ht0 hks0 hk0 h hm hl hs hmb hS hj
 rw [body_ok hm] at h1
 exact h1
theorem lives18_any {w:World}(ht:qC w) (hks:xN w) :
  CL w 8 #[] (.bool true):=by
 obtain⟨W1,Gi⟩:∃ W1,Hid (W1=w.alloc (.cells #[.int .u8 113] 5 (1,2))):=⟨_,qI rfl⟩
 have Gj:Hid (zb [] w W1):=qI (kA1 Gi.o)
 have Mz:Hid (zp W1 (.slice (some ⟨w.heap.size,0,none⟩) 1 1) [113]):=qI (by
  rw [Gi.o]
  refine⟨rfl,.inr (.inr ⟨w.heap.size,0,1,rfl,Nat.le_refl _,Wo,?_,Wz⟩)⟩
  intro j u hu
  rw [Nat.zero_add,cell_of_row _ w.heap.size j #[.int .u8 113] 5 (1,2) (heap_alloc_new w _)]
  rw [show ([113]:List UInt8).map bv=[.int .u8 113] from rfl] at hu
  simpa using hu)
 have HT:=qI ht
 have Mp:=qI hks
 have CN:=qI (newSigner_any Mz.o (hks.kept0 Gj.o))
 clear ht hks
 have kc:=fun (w:World) (C:Array Value) (n c:Nat)=>Lib.run_convert_bytes_const (P:=Tryz.prog) w 53 5 C n c underlying53 underlying5
 go_enter func8,ntmps8
 go_upto_region 2 with (go_at_call 16;change Calls _ _ _ (w.alloc (.cells #[.int .u8 113] 5 (1,2))) _;rw [← Gi.o];refine CN.o.mono ?_;rintro e w2 ⟨⟨sg,sa,sc,la,lc,mb,rfl,hsg,hsd,hlv,hmp,hmb⟩,hk2⟩;have Jd:Hid (bq w2 sg sa la sc lc mb 0):=qI ⟨0,_,⟨hsg,hsd,hlv,hmp⟩,Nat.le_refl _,fun _ _=>by simp,fun _ _ h=>(nomatch h)⟩;have Gu:Hid (w.heap.size≤mb):=qI (Nat.le_trans Gj.o.size hmb);have Gv:=qI (Gj.o.then hk2);clear hsg hsd hlv hmp hmb hk2)
 have CS1:=qI (signQ_any HT.o Mp.o Gv.o (envQ0 w2) (env_ok [] Wo rfl) Wo Jd.o Gu.o (fun h=>h) Wo)
 go_upto_region 5 with (go_at_call 17;refine CS1.o.mono ?_;rintro e w3 ⟨⟨kd,nm,st,p1,i1,d1,p2,i2,d2,a1,c1,rfl,he⟩,hsj,hk3⟩;have Ya:=qI he;have Ji:=qI hsj;have Jl:Hid (zb [mb] w2 w3):=qI hk3;clear he hsj hk3)
 obtain⟨W4,Jx⟩:∃ W4,Hid (W4=w3.alloc (.cells #[.int .i64 kd,.int .i64 nm,.string st,.slice p1 i1 d1,.slice p2 i2 d2,.slice a1 1 c1] 28)):=⟨_,qI rfl⟩
 have Gx:Hid (zb [] w3 W4):=qI (kA1 Jx.o)
 have Jc:Hid (EnvAt W4 w3.heap.size kd nm st (.slice p1 i1 d1) (.slice p2 i2 d2) (.slice a1 1 c1)):=qI (by rw [Jx.o];exact zd rfl)
 refine yq Jx.o ?_
 have Mq:Hid (Env 1 (fun g=>w2.heap.size≤g) W4 [.int .i64 kd,.int .i64 nm,.string st,.slice p1 i1 d1,.slice p2 i2 d2] vQ a1 c1 l1Q):=qI (Ya.o.kept0 Gx.o)
 have Mr:=qI (Ji.o.kept0 Gx.o)
 have Jy:Hid (mb<w2.heap.size):=qI Jd.o.lt.1
 have Jp:Hid (zb [] w W4):=qI ((Gv.o.trans Jl.o (by intro i hi;rw [List.mem_singleton] at hi;subst hi;exact .inr Gu.o)).then Gx.o)
 have CS2:=qI (signQ_any HT.o Mp.o Jp.o Mq.o env1 Wo Mr.o Gu.o (by have:=Jy.o;omega) Wo)
 obtain⟨b0,b1,b2,b3,b4,b5⟩:=xT Jc.o
 clear kc
 go_upto_region 6 with (go_at_call 17;refine CS2.o.mono ?_;rintro e w5 ⟨⟨kd',nm',st',q1,j1,h1,q2,j2,h2,a2,c2,rfl,he⟩,hsj,hk5⟩;have Yb:=qI he;have Yc:=qI hsj;have Je:Hid (zb [mb] W4 w5):=qI hk5;clear he hsj hk5 b0 b1 b2 b3 b4 b5)
 obtain⟨W6,Jz⟩:∃ W6,Hid (W6=w5.alloc (.cells #[.int .i64 kd',.int .i64 nm',.string st',.slice q1 j1 h1,.slice q2 j2 h2,.slice a2 2 c2] 28)):=⟨_,qI rfl⟩
 have Gn:Hid (zb [] w5 W6):=qI (kA1 Jz.o)
 have Yd:Hid (EnvAt W6 w5.heap.size kd' nm' st' (.slice q1 j1 h1) (.slice q2 j2 h2) (.slice a2 2 c2)):=qI (by rw [Jz.o];exact zd rfl)
 refine yq Jz.o ?_
 have Ye:Hid (EnvAt W6 w3.heap.size kd nm st (.slice p1 i1 d1) (.slice p2 i2 d2) (.slice a1 1 c1)):=qI (Gn.o.heap (Je.o.heap Jc.o (by have:=Jy.o;have:=Jl.o.size;simp;omega)) Wz)
 have HF:Hid (Env 1 (fun g=>W4.heap.size≤g) W6 [.int .i64 kd',.int .i64 nm',.string st',.slice q1 j1 h1,.slice q2 j2 h2] vQ a2 c2 l2Q):=qI (Yb.o.kept0 Gn.o)
 have HE:Hid (Env 1 (fun g=>w2.heap.size≤g) W6 [.int .i64 kd,.int .i64 nm,.string st,.slice p1 i1 d1,.slice p2 i2 d2] vQ a1 c1 l1Q):=qI ((Mq.o.mapped (by have:=Jy.o;omega) Mr.o.lt.2 Je.o).kept0 Gn.o)
 have Yf:=qI (Yc.o.kept0 Gn.o)
 have Jb:Hid (zb [] w W6):=qI ((Jp.o.trans Je.o (by intro i hi;rw [List.mem_singleton] at hi;subst hi;exact .inr Gu.o)).then Gn.o)
 have Ms:=qI (And.intro (HT.o.kept0 Jb.o) (Mp.o.kept0 Jb.o))
 clear Jz Gn Yb Yc CS2 Mq Mr Jc Gx Jx Ya Ji CS1 Gv Jd CN Mz Gi Gj Je Jp Jl Jy
 obtain⟨id,Ma⟩:∃ id,Hid (id=idQ):=⟨_,qI rfl⟩
 obtain⟨oid,Mb⟩:∃ oid,Hid (oid=idO):=⟨_,qI rfl⟩
 obtain⟨kk,Mc⟩:∃ kk,Hid (kk=k8 xR):=⟨_,qI rfl⟩
 have Jf:Hid (kk.root.length=32∧qX kk.bits):=qI (by rw [Mc.o];exact⟨yP _ _,by constructor <;> decide⟩)
 have CP:Hid (Cq W6 19 #[.pointer (some ⟨sg,0,none⟩)] (.agg (ye kk))):=qI (fun w2 h1=>by rw [Mc.o];exact JP (Yf.o.kept0 h1).key (yP _ _))
 have CI:Hid (∀ w2,Calls Tryz.prog 18 #[.agg (ye kk)] w2 fun e w'=>e = .returned (.string id)∧zb [] w2 w'):=qI (fun w2=>by
  have h1:=jL kk Jf.o.2 Jf.o.1 w2
  rw [Mc.o] at h1 ⊢
  rw [Ma.o]
  exact h1)
 have CO:Hid (∀ w2,Calls Tryz.prog 18 #[.agg (ye k0)] w2 fun e w'=>e = .returned (.string oid)∧zb [] w2 w'):=qI (fun w2=>by
  rw [Mb.o]
  exact jL k0 (by constructor <;> decide) rfl w2)
 go_upto_region 8 with first
  | (have hq8:=Yg.o;go_at_call 18;refine (CO.o _).mono ?_;rintro e w9 ⟨rfl,hk9⟩;have Yh:=qI (Yg.o.then hk9);clear hk9 hq8)
  | (go_at_call 18;refine (CI.o _).mono ?_;rintro e w8 ⟨rfl,hk8⟩;have Yg:=qI (Mm.o.then hk8);clear hk8)
  | (go_at_call 19;refine (CP.o _ Wd).mh ?_;rintro e w7 rfl Mm)
 go_upto_region 9 with first
  | (refine Kb Wk (.tmp 43) (.tmp 45) Wk Jf.o.1 Wk Wk ?_)
  | (refine Q9 Wk (.tmp 46) Wk Jf.o.1 Wk ?_)
  | (go_at_call 19;refine (CP.o _ Yh.o).mono ?_;rintro e w10 ⟨rfl,hk10⟩;have Mt:=qI (Yh.o.then hk10);clear hk10)
 obtain⟨W11,Gy⟩:∃ W11,Hid (W11=w10.alloc (.cells (kw id kk).toArray 49)):=⟨_,qI rfl⟩
 rw [← Gy.o]
 have Gw:Hid (zb [] W6 W11):=qI (by rw [Gy.o];exact Mt.o.alloc _)
 have Jm:Hid (xP W11 (.slice (some ⟨w10.heap.size,0,none⟩) 1 1) [⟨id,kk⟩]):=qI ⟨by
  rw [Gy.o,show vW [⟨id,kk⟩]=kw id kk by simp [vW,xW.enc]]
  exact zT w10 (kw id kk) 35 1 _ _ rfl (qj Jf.o.1) Wo,fun r hr=>by rw [List.mem_singleton] at hr;subst hr;exact Jf.o,Wz⟩
 generalize w10.heap.size=gk at Jm
 go_upto_region 11 with fail
 obtain⟨W12,Gh⟩:∃ W12,Hid (W12=(((W11.alloc (.cells #[.string id] 9)).alloc (.cells #[.slice (some ⟨W11.heap.size,0,none⟩) 1 1,.int .i64 1] 31)).alloc (.cells #[.string oid,.string id] 9)).alloc (.cells #[.slice (some ⟨W11.heap.size+2,0,none⟩) 2 2,.int .i64 2] 31)):=⟨_,qI rfl⟩
 refine yq Gh.o ?_
 have Gt:Hid (zb [] W11 W12):=qI (by rw [Gh.o];exact (((Wd.alloc _).alloc _).alloc _).alloc _)
 have Gb:Hid (zb [] W6 W12):=qI (Gw.o.then Gt.o)
 have Jh:Hid (RolAt W12 (W11.heap.size+1) (.slice (some ⟨W11.heap.size,0,none⟩) 1 1) 1):=qI (by rw [Gh.o];exact (((zb.refl [] _).alloc _).alloc _).heap (zd Wz) Wz)
 have Gq:Hid (RolAt W12 (W11.heap.size+3) (.slice (some ⟨W11.heap.size+2,0,none⟩) 2 2) 2):=qI (by rw [Gh.o];exact zd Wz)
 have Mu:Hid (id.size≤140737488355328∧oid.size≤140737488355328):=qI (by rw [Ma.o,Mb.o];unfold idQ idO;rw [Kw mayQ.1,Kw mayQ.2];decide)
 have Jv:Hid (kP W12 (some ⟨W11.heap.size,0,none⟩) 1 ⟨[id],1⟩):=qI ⟨by
  rw [Gh.o]
  exact xJ.kept0 (texts_new W11 [id] 9 (by show (1:Nat)≤maxLen;decide)) (((Wd.alloc _).alloc _).alloc _),fun k hk=>by rw [List.mem_singleton] at hk;subst hk;exact Mu.o.1,Wz⟩
 have Jn:Hid (kP W12 (some ⟨W11.heap.size+2,0,none⟩) 2 ⟨[oid,id],2⟩):=qI ⟨by
  rw [Gh.o]
  have h9:=texts_new ((W11.alloc (.cells #[.string id] 9)).alloc (.cells #[.slice (some ⟨W11.heap.size,0,none⟩) 1 1,.int .i64 1] 31)) [oid,id] 9 (by show (2:Nat)≤maxLen;decide)
  rw [show ((W11.alloc (.cells #[.string id] 9)).alloc (.cells #[.slice (some ⟨W11.heap.size,0,none⟩) 1 1,.int .i64 1] 31)).heap.size=W11.heap.size+2 by simp] at h9
  exact xJ.kept0 h9 (Wd.alloc _),fun k hk=>by
   rcases List.mem_cons.1 hk with rfl | hk
   ·exact Mu.o.2
   ·rw [List.mem_singleton] at hk;subst hk;exact Mu.o.1,Wz⟩
 have Gc:=qI (Jm.o.kept0 Gt.o)
 have Gp:=qI (HF.o.kept0 Gb.o)
 have Gz:=qI (HE.o.kept0 Gb.o)
 have Ge:=qI (And.intro (Ms.o.1.kept0 Gb.o) (Ms.o.2.kept0 Gb.o))
 have Gf:=qI (Gb.o.heap Yd.o Wz)
 have Gg:=qI (Gb.o.heap Ye.o Wz)
 clear Gy Gh HF HE Ms Yd Ye Jm CP CI CO Yf
 generalize W11.heap.size=gw at Jh Gq Jv Jn ⊢
 have Ja:Hid (zU 1 vQ l1Q ⟨[id],1⟩ [⟨id,kk⟩]=[id]∧zU 1 vQ l1Q ⟨[oid,id],2⟩ [⟨id,kk⟩]=[id]∧zU 1 vQ l2Q ⟨[oid,id],2⟩ [⟨id,kk⟩]=[id]∧zU 1 vQ l1Q ⟨[id],1⟩ []=[]∧xo 1 vQ l2Q [⟨id,kk⟩] id=true):=qI (by
  rw [Ma.o,Mb.o,Mc.o]
  exact⟨valid1,valid2 env1 (by simp [l1Q]),valid2 env2 (by simp [l2Q]),valid0,KD env2 (by simp [l2Q])⟩)
 have Jg:Hid (yN ⟨[id],1⟩ 1=0∧yN ⟨[oid,id],2⟩ 1=180∧yN ⟨[id],1⟩ 0=180∧jy ⟨[oid,id],2⟩ 1=1∧jy ⟨[],0⟩ 0 = -1):=qI (by
  rw [Ma.o,Mb.o]
  exact⟨enough1,enough2,enough0,miss2,rfl⟩)
 have CV:Hid (∀ w2,zb [] W12 w2→Calls Tryz.prog 12 #[.agg #[.int .i64 kd',.int .i64 nm',.string st',.slice q1 j1 h1,.slice q2 j2 h2,.slice a2 2 c2],.agg #[.slice (some ⟨gw+2,0,none⟩) 2 2,.int .i64 2],.slice (some ⟨gk,0,none⟩) 1 1] w2 fun e w'=>(∃ q d,e = .returned (.slice q 1 d)∧xJ w' (.slice q 1 d) [id])∧zb [] w2 w'):=qI (fun w2 hk=>by
  have h9:=valid_any (Gp.o.kept0 hk) (Ge.o.1.kept0 hk) (Ge.o.2.kept0 hk) (Jn.o.kept0 hk) (keys:=[⟨id,kk⟩]) (Gc.o.kept0 hk)
  rw [Ja.o.2.2.1] at h9
  exact h9)
 have CE1:Hid (Cq W12 15 #[.agg #[.int .i64 kd,.int .i64 nm,.string st,.slice p1 i1 d1,.slice p2 i2 d2,.slice a1 1 c1],.agg #[.slice (some ⟨gw,0,none⟩) 1 1,.int .i64 1],.slice (some ⟨gk,0,none⟩) 1 1] (.int .i64 0)):=qI (fun w2 hk=>by
  have h9:=jS (Gz.o.kept0 hk) (Ge.o.1.kept0 hk) (Ge.o.2.kept0 hk) (Jv.o.kept0 hk) (keys:=[⟨id,kk⟩]) (Gc.o.kept0 hk)
  rw [Ja.o.1,show ([id]:List ByteArray).length=1 from rfl,Jg.o.1] at h9
  exact h9)
 have CE2:Hid (Cq W12 15 #[.agg #[.int .i64 kd',.int .i64 nm',.string st',.slice q1 j1 h1,.slice q2 j2 h2,.slice a2 2 c2],.agg #[.slice (some ⟨gw+2,0,none⟩) 2 2,.int .i64 2],.slice (some ⟨gk,0,none⟩) 1 1] (.int .i64 180)):=qI (fun w2 hk=>by
  have h9:=jS (Gp.o.kept0 hk) (Ge.o.1.kept0 hk) (Ge.o.2.kept0 hk) (Jn.o.kept0 hk) (keys:=[⟨id,kk⟩]) (Gc.o.kept0 hk)
  rw [Ja.o.2.2.1,show ([id]:List ByteArray).length=1 from rfl,Jg.o.2.1] at h9
  exact h9)
 have CM1:Hid (Cq W12 20 #[.agg #[.int .i64 kd',.int .i64 nm',.string st',.slice q1 j1 h1,.slice q2 j2 h2,.slice a2 2 c2],.agg #[.slice (some ⟨gw+2,0,none⟩) 2 2,.int .i64 2],.slice (some ⟨gk,0,none⟩) 1 1] (.int .i64 1)):=qI (fun w2 hk=>by
  have h9:=Zs (Gp.o.kept0 hk) (Ge.o.1.kept0 hk) (Ge.o.2.kept0 hk) (Jn.o.kept0 hk) (keys:=[⟨id,kk⟩]) (Gc.o.kept0 hk)
  rw [Ja.o.2.2.1,show ([id]:List ByteArray).length=1 from rfl,Jg.o.2.2.2.1] at h9
  exact h9)
 have CM0:Hid (Cq W12 20 #[.agg #[.int .i64 kd',.int .i64 nm',.string st',.slice q1 j1 h1,.slice q2 j2 h2,.slice a2 2 c2],.agg #[.slice none 0 0,.int .i64 0],.slice (some ⟨gk,0,none⟩) 1 1] (.int .i64 (-1))):=qI (fun w2 hk=>by
  have h9:=Zs (r:=⟨[],0⟩) (ra:=none) (rc:=0) (Gp.o.kept0 hk) (Ge.o.1.kept0 hk) (Ge.o.2.kept0 hk) ⟨yV _ _,fun _ h=>(nomatch h),Wz⟩ (keys:=[⟨id,kk⟩]) (Gc.o.kept0 hk)
  rw [show jy ⟨[],0⟩ _ = -1 from rfl] at h9
  exact h9)
 have CG:Hid (∀ w2,zb [] W12 w2→Calls Tryz.prog 21 #[.agg #[.int .i64 kd',.int .i64 nm',.string st',.slice q1 j1 h1,.slice q2 j2 h2,.slice a2 2 c2],.slice (some ⟨gk,0,none⟩) 1 1] w2 fun e w'=>(∃ q d,e = .returned (.slice q 1 d))∧zb [] w2 w'):=qI (fun w2 hk=>by
  have h9:=signers1_any (Gp.o.kept0 hk) (Ge.o.1.kept0 hk) (Ge.o.2.kept0 hk) (kr:=⟨id,kk⟩) (Gc.o.kept0 hk) Ja.o.2.2.2.2
  exact h9)
 have CB:Hid (Cq W12 10 #[.agg #[.int .i64 kd,.int .i64 nm,.string st,.slice p1 i1 d1,.slice p2 i2 d2,.slice a1 1 c1],.agg #[.slice (some ⟨gw,0,none⟩) 1 1,.int .i64 1],.agg #[.slice (some ⟨gw+2,0,none⟩) 2 2,.int .i64 2],.slice (some ⟨gk,0,none⟩) 1 1,.slice (some ⟨gk,0,none⟩) 1 1] (.int .i64 180)):=qI (fun w2 hk=>by
  have h9:=both_any (Gz.o.kept0 hk) (Ge.o.1.kept0 hk) (Ge.o.2.kept0 hk) (Jv.o.kept0 hk) (Jn.o.kept0 hk) (keys:=[⟨id,kk⟩]) (Gc.o.kept0 hk) (under:=[⟨id,kk⟩]) (Gc.o.kept0 hk)
  rw [Ja.o.1,Ja.o.2.1,show ([id]:List ByteArray).length=1 from rfl,Jg.o.1,Jg.o.2.1] at h9
  exact h9)
 have CE0:Hid (Cq W12 15 #[.agg #[.int .i64 kd,.int .i64 nm,.string st,.slice p1 i1 d1,.slice p2 i2 d2,.slice a1 1 c1],.agg #[.slice (some ⟨gw,0,none⟩) 1 1,.int .i64 1],.slice none 0 0] (.int .i64 180)):=qI (fun w2 hk=>by
  have h9:=jS (Gz.o.kept0 hk) (Ge.o.1.kept0 hk) (Ge.o.2.kept0 hk) (Jv.o.kept0 hk) (a2:=none) (c2:=0) (keys:=[]) ⟨yV _ _,fun _ h=>(nomatch h),Wz⟩
  rw [Ja.o.2.2.2.1,show ([]:List ByteArray).length=0 from rfl,Jg.o.2.2.1] at h9
  exact h9)
 generalize hgf:w5.heap.size=gf at Gf
 generalize hge:w3.heap.size=ge at Gg
 have HC:Hid (∀ w2,zb [] W12 w2→w2.cell? ⟨gf,0,none⟩=some (.int .i64 kd')∧w2.cell? ⟨gf,1,none⟩=some (.int .i64 nm')∧w2.cell? ⟨gf,2,none⟩=some (.string st')∧w2.cell? ⟨gf,3,none⟩=some (.slice q1 j1 h1)∧w2.cell? ⟨gf,4,none⟩=some (.slice q2 j2 h2)∧w2.cell? ⟨gf,5,none⟩=some (.slice a2 2 c2)∧w2.cell? ⟨ge,0,none⟩=some (.int .i64 kd)∧w2.cell? ⟨ge,1,none⟩=some (.int .i64 nm)∧w2.cell? ⟨ge,2,none⟩=some (.string st)∧w2.cell? ⟨ge,3,none⟩=some (.slice p1 i1 d1)∧w2.cell? ⟨ge,4,none⟩=some (.slice p2 i2 d2)∧w2.cell? ⟨ge,5,none⟩=some (.slice a1 1 c1)∧w2.cell? ⟨gw+1,0,none⟩=some (.slice (some ⟨gw,0,none⟩) 1 1)∧w2.cell? ⟨gw+1,1,none⟩=some (.int .i64 1)∧w2.cell? ⟨gw+1+1+1,0,none⟩=some (.slice (some ⟨gw+2,0,none⟩) 2 2)∧w2.cell? ⟨gw+1+1+1,1,none⟩=some (.int .i64 2)):=qI (fun w2 hk=>⟨hk.cell (za (o:=0) Gf.o rfl) Wz,hk.cell (za (o:=1) Gf.o rfl) Wz,hk.cell (za (o:=2) Gf.o rfl) Wz,hk.cell (za (o:=3) Gf.o rfl) Wz,hk.cell (za (o:=4) Gf.o rfl) Wz,hk.cell (za (o:=5) Gf.o rfl) Wz,hk.cell (za (o:=0) Gg.o rfl) Wz,hk.cell (za (o:=1) Gg.o rfl) Wz,hk.cell (za (o:=2) Gg.o rfl) Wz,hk.cell (za (o:=3) Gg.o rfl) Wz,hk.cell (za (o:=4) Gg.o rfl) Wz,hk.cell (za (o:=5) Gg.o rfl) Wz,hk.cell (za (o:=0) Jh.o rfl) Wz,hk.cell (za (o:=1) Jh.o rfl) Wz,hk.cell (za (o:=0) Gq.o rfl) Wz,hk.cell (za (o:=1) Gq.o rfl) Wz⟩)
 have Yi:Hid (zb [] W12 W12):=qI Wd
 obtain⟨f0,f1,f2,f3,f4,f5,g0,g1,g2,g3,g4,g5,r0,r1,t0,t1⟩:=HC.o _ Yi.o
 clear Ja Jg Jh Gq Jv Jn Gp Gz Ge Gf Gg Gc Jf
 go_wp2_with first
  | (have hq:=Yj.o;go_at_call 15;refine (CE0.o _ hq).mono ?_;rintro e w9 ⟨rfl,hk⟩;have Yk:=qI (hq.then hk);clear hk hq f0 f1 f2 f3 f4 f5 g0 g1 g2 g3 g4 g5 r0 r1 t0 t1;obtain⟨f0,f1,f2,f3,f4,f5,g0,g1,g2,g3,g4,g5,r0,r1,t0,t1⟩:=HC.o _ Yk.o)
  | (have hq:=Yl.o;go_at_call 10;refine (CB.o _ hq).mono ?_;rintro e w9 ⟨rfl,hk⟩;have Yj:=qI (hq.then hk);clear hk hq f0 f1 f2 f3 f4 f5 g0 g1 g2 g3 g4 g5 r0 r1 t0 t1;obtain⟨f0,f1,f2,f3,f4,f5,g0,g1,g2,g3,g4,g5,r0,r1,t0,t1⟩:=HC.o _ Yj.o)
  | (have hq:=Gk.o;go_at_call 21;refine (CG.o _ hq).mono ?_;rintro e w9 ⟨⟨qs,ds,rfl⟩,hk⟩;have Yl:=qI (hq.then hk);clear hk hq f0 f1 f2 f3 f4 f5 g0 g1 g2 g3 g4 g5 r0 r1 t0 t1;obtain⟨f0,f1,f2,f3,f4,f5,g0,g1,g2,g3,g4,g5,r0,r1,t0,t1⟩:=HC.o _ Yl.o)
  | (have hq:=Jm.o;go_at_call 20;refine (CM0.o _ hq).mono ?_;rintro e w9 ⟨rfl,hk⟩;have Gk:=qI (hq.then hk);clear hk hq f0 f1 f2 f3 f4 f5 g0 g1 g2 g3 g4 g5 r0 r1 t0 t1;obtain⟨f0,f1,f2,f3,f4,f5,g0,g1,g2,g3,g4,g5,r0,r1,t0,t1⟩:=HC.o _ Gk.o)
  | (have hq:=Ym.o;go_at_call 20;refine (CM1.o _ hq).mono ?_;rintro e w9 ⟨rfl,hk⟩;have Jm:=qI (hq.then hk);clear hk hq f0 f1 f2 f3 f4 f5 g0 g1 g2 g3 g4 g5 r0 r1 t0 t1;obtain⟨f0,f1,f2,f3,f4,f5,g0,g1,g2,g3,g4,g5,r0,r1,t0,t1⟩:=HC.o _ Jm.o)
  | (have hq:=Yn.o;go_at_call 15;refine (CE2.o _ hq).mono ?_;rintro e w9 ⟨rfl,hk⟩;have hcv2:=hk.cell hcv1 Wz;have Ym:=qI (hq.then hk);clear hk hq f0 f1 f2 f3 f4 f5 g0 g1 g2 g3 g4 g5 r0 r1 t0 t1;obtain⟨f0,f1,f2,f3,f4,f5,g0,g1,g2,g3,g4,g5,r0,r1,t0,t1⟩:=HC.o _ Ym.o)
  | (have hq:=Yo.o;go_at_call 15;refine (CE1.o _ hq).mono ?_;rintro e w9 ⟨rfl,hk⟩;have hcv1:=hk.cell Yw.o.1 Wz;have Yn:=qI (hq.then hk);clear hk hq f0 f1 f2 f3 f4 f5 g0 g1 g2 g3 g4 g5 r0 r1 t0 t1;obtain⟨f0,f1,f2,f3,f4,f5,g0,g1,g2,g3,g4,g5,r0,r1,t0,t1⟩:=HC.o _ Yn.o)
  | (have hq:=Yi.o;go_at_call 12;refine (CV.o _ hq).mono ?_;rintro e w9 ⟨⟨qv,dv,rfl,htx⟩,hk⟩;have Yo:=qI (hq.then hk);clear hk hq f0 f1 f2 f3 f4 f5 g0 g1 g2 g3 g4 g5 r0 r1 t0 t1;obtain⟨f0,f1,f2,f3,f4,f5,g0,g1,g2,g3,g4,g5,r0,r1,t0,t1⟩:=HC.o _ Yo.o;obtain⟨gv,ov,rfl,hcv⟩:=xJ.at (l:=[id]) htx (k:=0) Nat.one_pos;have Yw:Hid (w9.cell? ⟨gv,ov,none⟩=some (.string id)∧True):=qI ⟨hcv,trivial⟩;clear htx hcv)
 go_ret
 exact⟨rfl,Jb.o.then (Gb.o.then Yk.o)⟩
end Go.Proofs.YtibnfbglanpoiaaGreatDoor

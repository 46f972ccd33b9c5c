/- Parts of one proof, merged: XEB XJL XEG. -/
import Derived.Test.YtibnfbglanpoiaaGreatDoorQbAE
import Derived.Test.YtibnfbglanpoiaaGreatDoorQbAK
import Derived.Lib.SlBytesConst
import Derived.Test.YtibnfbglanpoiaaGreatDoorQbR
import Derived.Test.YtibnfbglanpoiaaGreatDoorQbB
import Derived.Test.YtibnfbglanpoiaaGreatDoorQbAC
import Derived.Test.YtibnfbglanpoiaaGreatDoorQbAH
set_option linter.all false
set_option maxHeartbeats 12800000
set_option maxRecDepth 10000
set_option linter.unusedVariables false
set_option linter.unusedSimpArgs false
set_option linter.unnecessarySimpa false
namespace Go.Proofs.YtibnfbglanpoiaaGreatDoor
open Go.Proofs.Tryz
open Go.RowKit
attribute [local go_sem] Oper.semAt_some
theorem repQ (S:Nat→Prop) (w:World):Rep 1 S w [.int .i64 6,.int .i64 0,.string ⟨#[]⟩,.slice none 0 0,.slice none 0 0] vQ:=ZA S w (vQ:VS (V 0)) rfl rfl (YW (i:=6) (by decide) (by decide)) (YW (i:=0) (by decide) (by decide))
theorem envQ0 (w:World):Env 1 (fun _=>False) w [.int .i64 6,.int .i64 0,.string ⟨#[]⟩,.slice none 0 0,.slice none 0 0] vQ none 0 []:=
 ⟨repQ _ w,⟨by decide,by decide⟩,by decide,yV _ _,fun _ h=>(nomatch h),by decide⟩
theorem Env.mapped {n:Nat}{S:Nat→Prop}{w w':World}{cs:List Value}{v:V n}{a:Option Addr}{c mb:Nat}{l:List yl}(h:Env n S w cs v a c l) (hS:¬ S mb) (hm:kind w mb=1) (k:zb [mb] w w'):Env n S w' cs v a c l:=
 ⟨h.rep.kept k (fun g hg=>by rw [List.mem_singleton] at hg;rw [hg];exact hS),h.small,h.deep,Slc.mapped h.rows (by decide) hm k,h.texts,h.few⟩
theorem KZ (w:World) (xs:List ByteArray) (t:Nat) (hm:xs.length≤maxLen):yy (w.alloc (.cells (xs.map Value.string).toArray t)) (.slice (some ⟨w.heap.size,0,none⟩) xs.length xs.length) xs:=zY w (xs.map Value.string) 1 xs.length _ _ rfl (by simp) hm
theorem KN {W0:World}(ht0:xW W0) (hks0:xb W0) {S:Nat→Prop}{w:World}(hk0:zb [] W0 w) {cs:List Value}{a:Option Addr}{c:Nat}{l:List yl}(h:Env 1 S w cs vQ a c l) (hm:yB 1 vQ l=true) (hl:l.length≤2) {sg:Nat}{sa la:Option Addr}{sc lc mb j:Nat}(hs:jY w sg sa la sc lc mb j) (hmb:W0.heap.size≤mb) (hS:¬ S mb) (hj:j < 2) :
  Calls Tryz.prog 17 #[.agg (bA cs a l.length c).toArray,.pointer (some ⟨sg,0,none⟩)] w fun e w'=>(∃ kd nm st p1 i1 d1 p2 i2 d2 a' c',e = .returned (.tuple #[.agg #[.int .i64 kd,.int .i64 nm,.string st,.slice p1 i1 d1,.slice p2 i2 d2,.slice a' (l.length + 1) c'],.int .i64 0])∧Env 1 (fun g=>w.heap.size≤g) w' [.int .i64 kd,.int .i64 nm,.string st,.slice p1 i1 d1,.slice p2 i2 d2] vQ a' c' (l ++ [ZX j mQ]))∧jY w' sg sa la sc lc mb (j + 1)∧zb [mb] w w':=by
 have h1:=sgnSign_any ht0 hks0 hk0 h hm hl hs hmb hS hj
 rw [body_ok hm] at h1
 exact h1
set_option maxRecDepth 100000 in
theorem lives18_any {w:World}(ht:xW w) (hks:xb w) :
  Calls Tryz.prog 8 #[] w fun e w'=>e = .returned (.bool true)∧zb [] w w':=by
 obtain⟨W1,Gw⟩:∃ W1,Hid (W1=w.alloc (.cells #[.int .u8 113] 5 (1,2))):=⟨_,qI rfl⟩
 have Gx:Hid (zb [] w W1):=qI (by rw [Gw.o];exact (zb.refl _ w).alloc _)
 have Jy:Hid (zo W1 (.slice (some ⟨w.heap.size,0,none⟩) 1 1) [113]):=qI (by
  rw [Gw.o]
  refine⟨rfl,.inr (.inr ⟨w.heap.size,0,1,rfl,Nat.le_refl _,by decide,?_,by simp⟩)⟩
  intro j u hu
  rw [Nat.zero_add,cell_of_row _ w.heap.size j #[.int .u8 113] 5 (1,2) (heap_alloc_new w _)]
  rw [show ([113]:List UInt8).map bv=[.int .u8 113] from rfl] at hu
  simpa using hu)
 have HT:=qI ht
 have Ji:=qI hks
 have CN:=qI (Kq Jy.o (hks.kept0 Gx.o))
 clear ht hks
 have kc:=fun (w:World) (C:Array Value) (n c:Nat)=>Lib.run_convert_bytes_const (P:=Tryz.prog) w 53 5 C n c underlying53 underlying5
 go_enter func8,ntmps8
 go_upto_region 2 with (go_at_call 16;change Calls _ _ _ (w.alloc (.cells #[.int .u8 113] 5 (1,2))) _;rw [← Gw.o];refine CN.o.mono ?_;rintro e w2 ⟨⟨sg,sa,sc,la,lc,mb,rfl,hsg,hsd,hlv,hmp,hmb⟩,hk2⟩;have Jj:Hid (jY w2 sg sa la sc lc mb 0):=qI ⟨0,_,⟨hsg,hsd,hlv,hmp⟩,Nat.le_refl _,fun _ _=>by simp,fun _ _ h=>(nomatch h)⟩;have Gy:Hid (w.heap.size≤mb):=qI (Nat.le_trans Gx.o.size hmb);have Jk:=qI (Gx.o.then hk2);clear hsg hsd hlv hmp hmb hk2)
 have CS1:=qI (KN HT.o Ji.o Jk.o (envQ0 w2) (J1 [] (by decide) rfl) (by decide) Jj.o Gy.o (fun h=>h) (by decide))
 go_upto_region 5 with (go_at_call 17;refine CS1.o.mono ?_;rintro e w3 ⟨⟨kd,nm,st,p1,i1,d1,p2,i2,d2,a1,c1,rfl,he⟩,hsj,hk3⟩;have Jz:=qI he;have Ma:=qI hsj;have Jl:Hid (zb [mb] w2 w3):=qI hk3;clear he hsj hk3)
 obtain⟨W4,Gz⟩:∃ W4,Hid (W4=w3.alloc (.cells #[.int .i64 kd,.int .i64 nm,.string st,.slice p1 i1 d1,.slice p2 i2 d2,.slice a1 1 c1] 28)):=⟨_,qI rfl⟩
 have Gj:Hid (zb [] w3 W4):=qI (by rw [Gz.o];exact (zb.refl _ w3).alloc _)
 have Gn:Hid (QK W4 w3.heap.size kd nm st (.slice p1 i1 d1) (.slice p2 i2 d2) (.slice a1 1 c1)):=qI (by rw [Gz.o];exact zd rfl)
 change Code.wp _ _ _ _ (w3.alloc (.cells #[.int .i64 kd,.int .i64 nm,.string st,.slice p1 i1 d1,.slice p2 i2 d2,.slice a1 1 c1] 28))
 rw [← Gz.o]
 have Jm:Hid (Env 1 (fun g=>w2.heap.size≤g) W4 [.int .i64 kd,.int .i64 nm,.string st,.slice p1 i1 d1,.slice p2 i2 d2] vQ a1 c1 l1Q):=qI (Jz.o.kept0 Gj.o)
 have Jn:=qI (Ma.o.kept0 Gj.o)
 have Ja:Hid (mb < w2.heap.size):=qI Jj.o.lt.1
 have Jo:Hid (zb [] w W4):=qI ((Jk.o.trans Jl.o (by intro i hi;rw [List.mem_singleton] at hi;subst hi;exact .inr Gy.o)).then Gj.o)
 have CS2:=qI (KN HT.o Ji.o Jo.o Jm.o env1 (by decide) Jn.o Gy.o (by have:=Ja.o;omega) (by decide))
 have b0:=za (o:=0) Gn.o rfl
 have b1:=za (o:=1) Gn.o rfl
 have b2:=za (o:=2) Gn.o rfl
 have b3:=za (o:=3) Gn.o rfl
 have b4:=za (o:=4) Gn.o rfl
 have b5:=za (o:=5) Gn.o rfl
 clear kc
 go_upto_region 6 with (go_at_call 17;refine CS2.o.mono ?_;rintro e w5 ⟨⟨kd',nm',st',q1,j1,h1,q2,j2,h2,a2,c2,rfl,he⟩,hsj,hk5⟩;have Mb:=qI he;have Mc:=qI hsj;have Jb:Hid (zb [mb] W4 w5):=qI hk5;clear he hsj hk5 b0 b1 b2 b3 b4 b5)
 obtain⟨W6,Jc⟩:∃ W6,Hid (W6=w5.alloc (.cells #[.int .i64 kd',.int .i64 nm',.string st',.slice q1 j1 h1,.slice q2 j2 h2,.slice a2 2 c2] 28)):=⟨_,qI rfl⟩
 have Gg:Hid (zb [] w5 W6):=qI (by rw [Jc.o];exact (zb.refl _ w5).alloc _)
 have Md:Hid (QK W6 w5.heap.size kd' nm' st' (.slice q1 j1 h1) (.slice q2 j2 h2) (.slice a2 2 c2)):=qI (by rw [Jc.o];exact zd rfl)
 change Code.wp _ _ _ _ (w5.alloc (.cells #[.int .i64 kd',.int .i64 nm',.string st',.slice q1 j1 h1,.slice q2 j2 h2,.slice a2 2 c2] 28))
 rw [← Jc.o]
 have Me:Hid (QK W6 w3.heap.size kd nm st (.slice p1 i1 d1) (.slice p2 i2 d2) (.slice a1 1 c1)):=qI (Gg.o.heap (Jb.o.heap Gn.o (by have:=Ja.o;have:=Jl.o.size;simp;omega)) (by simp))
 have HF:Hid (Env 1 (fun g=>W4.heap.size≤g) W6 [.int .i64 kd',.int .i64 nm',.string st',.slice q1 j1 h1,.slice q2 j2 h2] vQ a2 c2 l2Q):=qI (Mb.o.kept0 Gg.o)
 have HE:Hid (Env 1 (fun g=>w2.heap.size≤g) W6 [.int .i64 kd,.int .i64 nm,.string st,.slice p1 i1 d1,.slice p2 i2 d2] vQ a1 c1 l1Q):=qI ((Jm.o.mapped (by have:=Ja.o;omega) Jn.o.lt.2 Jb.o).kept0 Gg.o)
 have Mf:=qI (Mc.o.kept0 Gg.o)
 have Jp:Hid (zb [] w W6):=qI ((Jo.o.trans Jb.o (by intro i hi;rw [List.mem_singleton] at hi;subst hi;exact .inr Gy.o)).then Gg.o)
 have Jq:=qI (And.intro (HT.o.kept0 Jp.o) (Ji.o.kept0 Jp.o))
 clear Jc Gg Mb Mc CS2 Jm Jn Gn Gj Gz Jz Ma CS1 Jk Jj CN Jy Gw Gx Jb Jo Jl Ja
 obtain⟨id,Jd⟩:∃ id,Hid (id=idQ):=⟨_,qI rfl⟩
 obtain⟨oid,Je⟩:∃ oid,Hid (oid=idO):=⟨_,qI rfl⟩
 obtain⟨kk,Jf⟩:∃ kk,Hid (kk=k8 xe):=⟨_,qI rfl⟩
 have Gp:Hid (kk.root.length=32∧ka kk.bits):=qI (by rw [Jf.o];exact⟨yL _ _,by constructor <;> decide⟩)
 have CP:Hid (∀ w2,zb [] W6 w2→Calls Tryz.prog 19 #[.pointer (some ⟨sg,0,none⟩)] w2 fun e w'=>e = .returned (.agg (yb kk))∧zb [] w2 w'):=qI (fun w2 h1=>by rw [Jf.o];exact Qp (Mf.o.kept0 h1).key (yL _ _))
 have CI:Hid (∀ w2,Calls Tryz.prog 18 #[.agg (yb kk)] w2 fun e w'=>e = .returned (.string id)∧zb [] w2 w'):=qI (fun w2=>by
  have h1:=ZC kk Gp.o.2 Gp.o.1 w2
  rw [Jf.o] at h1 ⊢
  rw [Jd.o]
  exact h1)
 have CO:Hid (∀ w2,Calls Tryz.prog 18 #[.agg (yb k0)] w2 fun e w'=>e = .returned (.string oid)∧zb [] w2 w'):=qI (fun w2=>by
  rw [Je.o]
  exact ZC k0 (by constructor <;> decide) rfl w2)
 go_upto_region 8 with first
  | (have hq8:=Mg.o;go_at_call 18;refine (CO.o _).mono ?_;rintro e w9 ⟨rfl,hk9⟩;have Mh:=qI (Mg.o.then hk9);clear hk9 hq8)
  | (go_at_call 18;refine (CI.o _).mono ?_;rintro e w8 ⟨rfl,hk8⟩;have Mg:=qI (Mr.o.then hk8);clear hk8)
  | (go_at_call 19;refine (CP.o _ (zb.refl _ _)).mono ?_;rintro e w7 ⟨rfl,hk7⟩;have Mr:=qI hk7;clear hk7)
 go_upto_region 9 with first
  | (refine Y0 (by rfl) (.tmp 43) (.tmp 45) (by rfl) Gp.o.1 (by rfl) (by rfl) ?_)
  | (refine vO (by rfl) (.tmp 46) (by rfl) Gp.o.1 (by rfl) ?_)
  | (go_at_call 19;refine (CP.o _ Mh.o).mono ?_;rintro e w10 ⟨rfl,hk10⟩;have Jr:=qI (Mh.o.then hk10);clear hk10)
 obtain⟨W11,Gk⟩:∃ W11,Hid (W11=w10.alloc (.cells (qe id kk).toArray 49)):=⟨_,qI rfl⟩
 rw [← Gk.o]
 have Js:Hid (zb [] W6 W11):=qI (by rw [Gk.o];exact Jr.o.alloc _)
 have Gr:Hid (xu W11 (.slice (some ⟨w10.heap.size,0,none⟩) 1 1) [⟨id,kk⟩]):=qI ⟨by
  rw [Gk.o,show xN [⟨id,kk⟩]=qe id kk by simp [xN,yK.enc]]
  exact zY w10 (qe id kk) 35 1 _ _ rfl (xy Gp.o.1) (by decide),fun r hr=>by rw [List.mem_singleton] at hr;subst hr;exact Gp.o,by simp⟩
 generalize w10.heap.size=gk at Gr
 go_upto_region 11 with fail
 obtain⟨W12,Ge⟩:∃ W12,Hid (W12=(((W11.alloc (.cells #[.string id] 9)).alloc (.cells #[.slice (some ⟨W11.heap.size,0,none⟩) 1 1,.int .i64 1] 31)).alloc (.cells #[.string oid,.string id] 9)).alloc (.cells #[.slice (some ⟨W11.heap.size + 2,0,none⟩) 2 2,.int .i64 2] 31)):=⟨_,qI rfl⟩
 change Code.wp _ _ _ _ ((((W11.alloc (.cells #[.string id] 9)).alloc (.cells #[.slice (some ⟨W11.heap.size,0,none⟩) 1 1,.int .i64 1] 31)).alloc (.cells #[.string oid,.string id] 9)).alloc (.cells #[.slice (some ⟨W11.heap.size + 2,0,none⟩) 2 2,.int .i64 2] 31))
 rw [← Ge.o]
 have Gi:Hid (zb [] W11 W12):=qI (by rw [Ge.o];exact ((((zb.refl _ _).alloc _).alloc _).alloc _).alloc _)
 have Gf:Hid (zb [] W6 W12):=qI (Js.o.then Gi.o)
 have Jg:Hid (JH W12 (W11.heap.size + 1) (.slice (some ⟨W11.heap.size,0,none⟩) 1 1) 1):=qI (by rw [Ge.o];exact (((zb.refl [] _).alloc _).alloc _).heap (zd (by simp)) (by simp))
 have Jh:Hid (JH W12 (W11.heap.size + 3) (.slice (some ⟨W11.heap.size + 2,0,none⟩) 2 2) 2):=qI (by rw [Ge.o];exact zd (by simp))
 have Jt:Hid (id.size≤140737488355328∧oid.size≤140737488355328):=qI (by rw [Jd.o,Je.o];unfold idQ idO;rw [Q3 mayQ.1,Q3 mayQ.2];decide)
 have Gt:Hid (kO W12 (some ⟨W11.heap.size,0,none⟩) 1 ⟨[id],1⟩):=qI ⟨by
  rw [Ge.o]
  exact yy.kept0 (KZ W11 [id] 9 (by show (1:Nat)≤maxLen;decide)) ((((zb.refl _ _).alloc _).alloc _).alloc _),fun k hk=>by rw [List.mem_singleton] at hk;subst hk;exact Jt.o.1,by simp⟩
 have Gs:Hid (kO W12 (some ⟨W11.heap.size + 2,0,none⟩) 2 ⟨[oid,id],2⟩):=qI ⟨by
  rw [Ge.o]
  have h9:=KZ ((W11.alloc (.cells #[.string id] 9)).alloc (.cells #[.slice (some ⟨W11.heap.size,0,none⟩) 1 1,.int .i64 1] 31)) [oid,id] 9 (by show (2:Nat)≤maxLen;decide)
  rw [show ((W11.alloc (.cells #[.string id] 9)).alloc (.cells #[.slice (some ⟨W11.heap.size,0,none⟩) 1 1,.int .i64 1] 31)).heap.size=W11.heap.size + 2 by simp] at h9
  exact yy.kept0 h9 ((zb.refl _ _).alloc _),fun k hk=>by
   rcases List.mem_cons.1 hk with rfl | hk
   ·exact Jt.o.2
   ·rw [List.mem_singleton] at hk;subst hk;exact Jt.o.1,by simp⟩
 have Ga:=qI (Gr.o.kept0 Gi.o)
 have Gh:=qI (HF.o.kept0 Gf.o)
 have Gl:=qI (HE.o.kept0 Gf.o)
 have Gb:=qI (And.intro (Jq.o.1.kept0 Gf.o) (Jq.o.2.kept0 Gf.o))
 have Gc:=qI (Gf.o.heap Md.o (by simp))
 have Gd:=qI (Gf.o.heap Me.o (by simp))
 clear Gk Ge HF HE Jq Md Me Gr CP CI CO Mf
 generalize W11.heap.size=gw at Jg Jh Gt Gs ⊢
 have Gm:Hid (zJ 1 vQ l1Q ⟨[id],1⟩ [⟨id,kk⟩]=[id]∧zJ 1 vQ l1Q ⟨[oid,id],2⟩ [⟨id,kk⟩]=[id]∧zJ 1 vQ l2Q ⟨[oid,id],2⟩ [⟨id,kk⟩]=[id]∧zJ 1 vQ l1Q ⟨[id],1⟩ []=[]∧xv 1 vQ l2Q [⟨id,kk⟩] id=true):=qI (by
  rw [Jd.o,Je.o,Jf.o]
  exact⟨valid1,valid2 env1 (by simp [l1Q]),valid2 env2 (by simp [l2Q]),valid0,QN env2 (by simp [l2Q])⟩)
 have Gq:Hid (yC ⟨[id],1⟩ 1=0∧yC ⟨[oid,id],2⟩ 1=180∧yC ⟨[id],1⟩ 0=180∧kH ⟨[oid,id],2⟩ 1=1∧kH ⟨[],0⟩ 0 = -1):=qI (by
  rw [Jd.o,Je.o]
  exact⟨enough1,enough2,enough0,miss2,rfl⟩)
 have CV:Hid (∀ w2,zb [] W12 w2→Calls Tryz.prog 12 #[.agg #[.int .i64 kd',.int .i64 nm',.string st',.slice q1 j1 h1,.slice q2 j2 h2,.slice a2 2 c2],.agg #[.slice (some ⟨gw + 2,0,none⟩) 2 2,.int .i64 2],.slice (some ⟨gk,0,none⟩) 1 1] w2 fun e w'=>(∃ q d,e = .returned (.slice q 1 d)∧yy w' (.slice q 1 d) [id])∧zb [] w2 w'):=qI (fun w2 hk=>by
  have h9:=vb (Gh.o.kept0 hk) (Gb.o.1.kept0 hk) (Gb.o.2.kept0 hk) (Gs.o.kept0 hk) (keys:=[⟨id,kk⟩]) (Ga.o.kept0 hk)
  rw [Gm.o.2.2.1] at h9
  exact h9)
 have CE1:Hid (∀ w2,zb [] W12 w2→Calls Tryz.prog 15 #[.agg #[.int .i64 kd,.int .i64 nm,.string st,.slice p1 i1 d1,.slice p2 i2 d2,.slice a1 1 c1],.agg #[.slice (some ⟨gw,0,none⟩) 1 1,.int .i64 1],.slice (some ⟨gk,0,none⟩) 1 1] w2 fun e w'=>e = .returned (.int .i64 0)∧zb [] w2 w'):=qI (fun w2 hk=>by
  have h9:=qJ (Gl.o.kept0 hk) (Gb.o.1.kept0 hk) (Gb.o.2.kept0 hk) (Gt.o.kept0 hk) (keys:=[⟨id,kk⟩]) (Ga.o.kept0 hk)
  rw [Gm.o.1,show ([id]:List ByteArray).length=1 from rfl,Gq.o.1] at h9
  exact h9)
 have CE2:Hid (∀ w2,zb [] W12 w2→Calls Tryz.prog 15 #[.agg #[.int .i64 kd',.int .i64 nm',.string st',.slice q1 j1 h1,.slice q2 j2 h2,.slice a2 2 c2],.agg #[.slice (some ⟨gw + 2,0,none⟩) 2 2,.int .i64 2],.slice (some ⟨gk,0,none⟩) 1 1] w2 fun e w'=>e = .returned (.int .i64 180)∧zb [] w2 w'):=qI (fun w2 hk=>by
  have h9:=qJ (Gh.o.kept0 hk) (Gb.o.1.kept0 hk) (Gb.o.2.kept0 hk) (Gs.o.kept0 hk) (keys:=[⟨id,kk⟩]) (Ga.o.kept0 hk)
  rw [Gm.o.2.2.1,show ([id]:List ByteArray).length=1 from rfl,Gq.o.2.1] at h9
  exact h9)
 have CM1:Hid (∀ w2,zb [] W12 w2→Calls Tryz.prog 20 #[.agg #[.int .i64 kd',.int .i64 nm',.string st',.slice q1 j1 h1,.slice q2 j2 h2,.slice a2 2 c2],.agg #[.slice (some ⟨gw + 2,0,none⟩) 2 2,.int .i64 2],.slice (some ⟨gk,0,none⟩) 1 1] w2 fun e w'=>e = .returned (.int .i64 1)∧zb [] w2 w'):=qI (fun w2 hk=>by
  have h9:=vU (Gh.o.kept0 hk) (Gb.o.1.kept0 hk) (Gb.o.2.kept0 hk) (Gs.o.kept0 hk) (keys:=[⟨id,kk⟩]) (Ga.o.kept0 hk)
  rw [Gm.o.2.2.1,show ([id]:List ByteArray).length=1 from rfl,Gq.o.2.2.2.1] at h9
  exact h9)
 have CM0:Hid (∀ w2,zb [] W12 w2→Calls Tryz.prog 20 #[.agg #[.int .i64 kd',.int .i64 nm',.string st',.slice q1 j1 h1,.slice q2 j2 h2,.slice a2 2 c2],.agg #[.slice none 0 0,.int .i64 0],.slice (some ⟨gk,0,none⟩) 1 1] w2 fun e w'=>e = .returned (.int .i64 (-1))∧zb [] w2 w'):=qI (fun w2 hk=>by
  have h9:=vU (r:=⟨[],0⟩) (ra:=none) (rc:=0) (Gh.o.kept0 hk) (Gb.o.1.kept0 hk) (Gb.o.2.kept0 hk) ⟨yV _ _,fun _ h=>(nomatch h),by simp⟩ (keys:=[⟨id,kk⟩]) (Ga.o.kept0 hk)
  rw [show kH ⟨[],0⟩ _ = -1 from rfl] at h9
  exact h9)
 have CG:Hid (∀ w2,zb [] W12 w2→Calls Tryz.prog 21 #[.agg #[.int .i64 kd',.int .i64 nm',.string st',.slice q1 j1 h1,.slice q2 j2 h2,.slice a2 2 c2],.slice (some ⟨gk,0,none⟩) 1 1] w2 fun e w'=>(∃ q d,e = .returned (.slice q 1 d))∧zb [] w2 w'):=qI (fun w2 hk=>by
  have h9:=J7 (Gh.o.kept0 hk) (Gb.o.1.kept0 hk) (Gb.o.2.kept0 hk) (kr:=⟨id,kk⟩) (Ga.o.kept0 hk) Gm.o.2.2.2.2
  exact h9)
 have CB:Hid (∀ w2,zb [] W12 w2→Calls Tryz.prog 10 #[.agg #[.int .i64 kd,.int .i64 nm,.string st,.slice p1 i1 d1,.slice p2 i2 d2,.slice a1 1 c1],.agg #[.slice (some ⟨gw,0,none⟩) 1 1,.int .i64 1],.agg #[.slice (some ⟨gw + 2,0,none⟩) 2 2,.int .i64 2],.slice (some ⟨gk,0,none⟩) 1 1,.slice (some ⟨gk,0,none⟩) 1 1] w2 fun e w'=>e = .returned (.int .i64 180)∧zb [] w2 w'):=qI (fun w2 hk=>by
  have h9:=both_any (Gl.o.kept0 hk) (Gb.o.1.kept0 hk) (Gb.o.2.kept0 hk) (Gt.o.kept0 hk) (Gs.o.kept0 hk) (keys:=[⟨id,kk⟩]) (Ga.o.kept0 hk) (under:=[⟨id,kk⟩]) (Ga.o.kept0 hk)
  rw [Gm.o.1,Gm.o.2.1,show ([id]:List ByteArray).length=1 from rfl,Gq.o.1,Gq.o.2.1] at h9
  exact h9)
 have CE0:Hid (∀ w2,zb [] W12 w2→Calls Tryz.prog 15 #[.agg #[.int .i64 kd,.int .i64 nm,.string st,.slice p1 i1 d1,.slice p2 i2 d2,.slice a1 1 c1],.agg #[.slice (some ⟨gw,0,none⟩) 1 1,.int .i64 1],.slice none 0 0] w2 fun e w'=>e = .returned (.int .i64 180)∧zb [] w2 w'):=qI (fun w2 hk=>by
  have h9:=qJ (Gl.o.kept0 hk) (Gb.o.1.kept0 hk) (Gb.o.2.kept0 hk) (Gt.o.kept0 hk) (a2:=none) (c2:=0) (keys:=[]) ⟨yV _ _,fun _ h=>(nomatch h),by simp⟩
  rw [Gm.o.2.2.2.1,show ([]:List ByteArray).length=0 from rfl,Gq.o.2.2.1] at h9
  exact h9)
 generalize hgf:w5.heap.size=gf at Gc
 generalize hge:w3.heap.size=ge at Gd
 have HC:Hid (∀ w2,zb [] W12 w2→w2.cell? ⟨gf,0,none⟩=some (.int .i64 kd')∧w2.cell? ⟨gf,1,none⟩=some (.int .i64 nm')∧w2.cell? ⟨gf,2,none⟩=some (.string st')∧w2.cell? ⟨gf,3,none⟩=some (.slice q1 j1 h1)∧w2.cell? ⟨gf,4,none⟩=some (.slice q2 j2 h2)∧w2.cell? ⟨gf,5,none⟩=some (.slice a2 2 c2)∧w2.cell? ⟨ge,0,none⟩=some (.int .i64 kd)∧w2.cell? ⟨ge,1,none⟩=some (.int .i64 nm)∧w2.cell? ⟨ge,2,none⟩=some (.string st)∧w2.cell? ⟨ge,3,none⟩=some (.slice p1 i1 d1)∧w2.cell? ⟨ge,4,none⟩=some (.slice p2 i2 d2)∧w2.cell? ⟨ge,5,none⟩=some (.slice a1 1 c1)∧w2.cell? ⟨gw + 1,0,none⟩=some (.slice (some ⟨gw,0,none⟩) 1 1)∧w2.cell? ⟨gw + 1,1,none⟩=some (.int .i64 1)∧w2.cell? ⟨gw + 1 + 1 + 1,0,none⟩=some (.slice (some ⟨gw + 2,0,none⟩) 2 2)∧w2.cell? ⟨gw + 1 + 1 + 1,1,none⟩=some (.int .i64 2)):=qI (fun w2 hk=>⟨hk.cell (za (o:=0) Gc.o rfl) (by simp),hk.cell (za (o:=1) Gc.o rfl) (by simp),hk.cell (za (o:=2) Gc.o rfl) (by simp),hk.cell (za (o:=3) Gc.o rfl) (by simp),hk.cell (za (o:=4) Gc.o rfl) (by simp),hk.cell (za (o:=5) Gc.o rfl) (by simp),hk.cell (za (o:=0) Gd.o rfl) (by simp),hk.cell (za (o:=1) Gd.o rfl) (by simp),hk.cell (za (o:=2) Gd.o rfl) (by simp),hk.cell (za (o:=3) Gd.o rfl) (by simp),hk.cell (za (o:=4) Gd.o rfl) (by simp),hk.cell (za (o:=5) Gd.o rfl) (by simp),hk.cell (za (o:=0) Jg.o rfl) (by simp),hk.cell (za (o:=1) Jg.o rfl) (by simp),hk.cell (za (o:=0) Jh.o rfl) (by simp),hk.cell (za (o:=1) Jh.o rfl) (by simp)⟩)
 have Mi:Hid (zb [] W12 W12):=qI (zb.refl _ _)
 obtain⟨f0,f1,f2,f3,f4,f5,g0,g1,g2,g3,g4,g5,r0,r1,t0,t1⟩:=HC.o _ Mi.o
 clear Gm Gq Jg Jh Gt Gs Gh Gl Gb Gc Gd Ga Gp
 go_wp2_with first
  | (have hq:=Mj.o;go_at_call 15;refine (CE0.o _ hq).mono ?_;rintro e w9 ⟨rfl,hk⟩;have Mk:=qI (hq.then hk);clear hk hq f0 f1 f2 f3 f4 f5 g0 g1 g2 g3 g4 g5 r0 r1 t0 t1;obtain⟨f0,f1,f2,f3,f4,f5,g0,g1,g2,g3,g4,g5,r0,r1,t0,t1⟩:=HC.o _ Mk.o)
  | (have hq:=Ml.o;go_at_call 10;refine (CB.o _ hq).mono ?_;rintro e w9 ⟨rfl,hk⟩;have Mj:=qI (hq.then hk);clear hk hq f0 f1 f2 f3 f4 f5 g0 g1 g2 g3 g4 g5 r0 r1 t0 t1;obtain⟨f0,f1,f2,f3,f4,f5,g0,g1,g2,g3,g4,g5,r0,r1,t0,t1⟩:=HC.o _ Mj.o)
  | (have hq:=Mm.o;go_at_call 21;refine (CG.o _ hq).mono ?_;rintro e w9 ⟨⟨qs,ds,rfl⟩,hk⟩;have Ml:=qI (hq.then hk);clear hk hq f0 f1 f2 f3 f4 f5 g0 g1 g2 g3 g4 g5 r0 r1 t0 t1;obtain⟨f0,f1,f2,f3,f4,f5,g0,g1,g2,g3,g4,g5,r0,r1,t0,t1⟩:=HC.o _ Ml.o)
  | (have hq:=Gr.o;go_at_call 20;refine (CM0.o _ hq).mono ?_;rintro e w9 ⟨rfl,hk⟩;have Mm:=qI (hq.then hk);clear hk hq f0 f1 f2 f3 f4 f5 g0 g1 g2 g3 g4 g5 r0 r1 t0 t1;obtain⟨f0,f1,f2,f3,f4,f5,g0,g1,g2,g3,g4,g5,r0,r1,t0,t1⟩:=HC.o _ Mm.o)
  | (have hq:=Mn.o;go_at_call 20;refine (CM1.o _ hq).mono ?_;rintro e w9 ⟨rfl,hk⟩;have Gr:=qI (hq.then hk);clear hk hq f0 f1 f2 f3 f4 f5 g0 g1 g2 g3 g4 g5 r0 r1 t0 t1;obtain⟨f0,f1,f2,f3,f4,f5,g0,g1,g2,g3,g4,g5,r0,r1,t0,t1⟩:=HC.o _ Gr.o)
  | (have hq:=Mo.o;go_at_call 15;refine (CE2.o _ hq).mono ?_;rintro e w9 ⟨rfl,hk⟩;have hcv2:=hk.cell hcv1 (by simp);have Mn:=qI (hq.then hk);clear hk hq f0 f1 f2 f3 f4 f5 g0 g1 g2 g3 g4 g5 r0 r1 t0 t1;obtain⟨f0,f1,f2,f3,f4,f5,g0,g1,g2,g3,g4,g5,r0,r1,t0,t1⟩:=HC.o _ Mn.o)
  | (have hq:=Mp.o;go_at_call 15;refine (CE1.o _ hq).mono ?_;rintro e w9 ⟨rfl,hk⟩;have hcv1:=hk.cell Ms.o.1 (by simp);have Mo:=qI (hq.then hk);clear hk hq f0 f1 f2 f3 f4 f5 g0 g1 g2 g3 g4 g5 r0 r1 t0 t1;obtain⟨f0,f1,f2,f3,f4,f5,g0,g1,g2,g3,g4,g5,r0,r1,t0,t1⟩:=HC.o _ Mo.o)
  | (have hq:=Mi.o;go_at_call 12;refine (CV.o _ hq).mono ?_;rintro e w9 ⟨⟨qv,dv,rfl,htx⟩,hk⟩;have Mp:=qI (hq.then hk);clear hk hq f0 f1 f2 f3 f4 f5 g0 g1 g2 g3 g4 g5 r0 r1 t0 t1;obtain⟨f0,f1,f2,f3,f4,f5,g0,g1,g2,g3,g4,g5,r0,r1,t0,t1⟩:=HC.o _ Mp.o;obtain⟨gv,ov,rfl,hcv⟩:=yy.at (l:=[id]) htx (k:=0) Nat.one_pos;have Ms:Hid (w9.cell? ⟨gv,ov,none⟩=some (.string id)∧True):=qI ⟨hcv,trivial⟩;clear htx hcv)
 go_ret
 exact⟨rfl,Jp.o.then (Gf.o.then Mk.o)⟩
theorem takes_eq {α:Type}{a b:List α}{k:Nat}(h:a.take k=b.take k) (ha:k < a.length) (hb:k < b.length) (he:a[k]=b[k]):a.take (k + 1)=b.take (k + 1):=by
 rw [List.take_succ_eq_append_getElem ha,List.take_succ_eq_append_getElem hb,h,he]
theorem sameT_any {w:World}{a b:Option Addr}{c d:Nat}{la lb:List ByteArray}(ha:yy w (.slice a la.length c) la) (hb:yy w (.slice b lb.length d) lb) (hn:la.length≤1000000000000) (hm:lb.length≤1000000000000) :
  Calls Tryz.prog 11 #[.slice a la.length c,.slice b lb.length d] w fun e w'=>e = .returned (.bool (decide (la=lb)))∧zb [] w w':=by
 have HA:=qI ha
 have HB:=qI hb
 obtain⟨n,Gu⟩:∃ n,Hid (la.length=n):=⟨_,qI rfl⟩
 obtain⟨m,Gv⟩:∃ m,Hid (lb.length=m):=⟨_,qI rfl⟩
 rw [Gu.o] at hn HA ⊢
 rw [Gv.o] at hm HB ⊢
 have hnI:(n:Int)≤1000000000000:=by omega
 have hmI:(m:Int)≤1000000000000:=by omega
 clear ha hb
 by_cases hnm:n=m
 rotate_left
 ·have HE:Hid (decide (la=lb)=false):=qI (decide_eq_false (fun e=>hnm (by rw [← Gu.o,← Gv.o,e])))
  obtain⟨f1,f2⟩:=xn (a:=(n:Int)) (b:=(m:Int)) (by omega)
  clear hnm hn hm
  go_enter func11,ntmps11
  go_wp2_with fail
  go_ret
  rw [HE.o]
  exact⟨rfl,zb.refl _ _⟩
 subst hnm
 clear hn hm
 go_enter func11,ntmps11
 go_wp2_with fail
 go_loopw [5] (fun i wr=>∃ k:Nat,i = .int .i64 k∧k≤n∧Hid (la.take k=lb.take k)∧zb [] w wr) (fun i _=>n - (intOf i).toNat)
 case atStart=>exact⟨0,rfl,Nat.zero_le _,qI rfl,zb.refl _ _⟩
 case round=>
  obtain⟨k,rfl,hk,ht,hkw⟩:=hrel
  have Ju:=qI hkw
  by_cases hlt:k < n
  ·have hltI:(k:Int) < n:=by omega
   have hka:k < la.length:=by rw [Gu.o];exact hlt
   have hkb:k < lb.length:=by rw [Gv.o];exact hlt
   obtain⟨ga,oa,rfl,qa⟩:=yy.at (l:=la) (c:=c) (by rw [Gu.o];exact yy.kept0 HA.o hkw) hka
   obtain⟨gb,ob,rfl,qb⟩:=yy.at (l:=lb) (c:=d) (by rw [Gv.o];exact yy.kept0 HB.o hkw) hkb
   have ea:=zu qa
   have eb:=zu qb
   have Jv:=qI (takes_eq ht.o hka hkb)
   have Jw:Hid (la[k]≠lb[k]→decide (la=lb)=false):=qI (fun h=>decide_eq_false (fun e=>h (by subst e;rfl)))
   have Mq:=qI hlt
   clear hk ht hkw qa qb
   revert ea eb Jv Jw
   generalize la[k]=x
   generalize lb[k]=y
   intro ea eb Jv Jw
   clear hlt hka hkb
   by_cases hxy:x=y
   ·obtain⟨f1,f2⟩:=vw hxy
    have Jx:=qI (Jv.o hxy)
    clear hxy
    go_wp2_with fail
    refine yr wr (by kernel_rfl) (by kernel_rfl) (zb.refl _ _) ?_
    repeat go_big_quiet_step (fail)
    refine wpQuiet_nil ?_
    intro w2 hk2
    clear ea eb
    go_wp2_with fail
    case roundEnd=>exact⟨⟨k + 1,by go_num,by have:=Mq.o;omega,Jx,Ju.o.then hk2⟩,by have:=Mq.o;simp [intOf];omega⟩
   ·obtain⟨f1,f2⟩:=jH hxy
    have Jx:=qI (Jw.o hxy)
    clear hxy
    go_wp2_with fail
    refine yr wr (by kernel_rfl) (by kernel_rfl) (zb.refl _ _) ?_
    repeat go_big_quiet_step (fail)
    refine wpQuiet_nil ?_
    intro w2 hk2
    clear ea eb
    go_wp2_with fail
    go_ret
    rw [Jx.o]
    exact⟨rfl,Ju.o.then hk2⟩
  ·obtain rfl:k=n:=by omega
   have hltI:¬ (k:Int) < k:=by omega
   have HE:Hid (decide (la=lb)=true):=qI (decide_eq_true (by
    have h9:=ht.o
    rw [List.take_of_length_le (by rw [Gu.o];exact Nat.le_refl _),List.take_of_length_le (by rw [Gv.o];exact Nat.le_refl _)] at h9
    exact h9))
   clear hlt ht hkw hk
   go_wp2_with fail
   go_ret
   rw [HE.o]
   exact⟨rfl,Ju.o⟩
theorem validL_len {n:Nat}(v:V n) (l:List yl) (r:qf) (keys:List yK):(zJ n v l r keys).length≤r.keys.length:=by
 unfold zJ
 split
 ·exact List.length_filter_le _ _
 ·exact Nat.zero_le _
theorem JZ {w:World}{a b:Option Addr}{c d:Nat}{l:List ByteArray}(ha:yy w (.slice a l.length c) l) (hb:yy w (.slice b l.length d) l) (hn:l.length≤1000000000000) :
  Calls Tryz.prog 11 #[.slice a l.length c,.slice b l.length d] w fun e w'=>e = .returned (.bool true)∧zb [] w w':=by
 have h1:=sameT_any ha hb hn hn
 rw [decide_eq_true rfl] at h1
 exact h1
end Go.Proofs.YtibnfbglanpoiaaGreatDoor

/- Parts of one proof, merged: XEB XJL. -/
import Derived.Test.YtibnfbglanpoiaaGreatDoorQcAE
import Derived.Test.YtibnfbglanpoiaaGreatDoorQcAK
import Derived.Lib.SlBytesConst
import Derived.Test.YtibnfbglanpoiaaGreatDoorQcR
import Derived.Test.YtibnfbglanpoiaaGreatDoorQcB
set_option linter.all false
set_option maxHeartbeats 12800000
set_option maxRecDepth 10000
set_option linter.unusedVariables false
set_option linter.unusedSimpArgs false
set_option linter.unnecessarySimpa false
namespace Go.Proofs.YtibnfbglanpoiaaGreatDoor
open Go.Proofs.Tryz
open Go.RowKit
attribute [local go_sem] Oper.semAt_some
theorem repQ (S:Nat→Prop) (w:World):Rep 1 S w [.int .i64 6,.int .i64 0,.string ⟨#[]⟩,.slice none 0 0,.slice none 0 0] vQ:=YC S w (vQ:VS (V 0)) rfl rfl (Qy (i:=6) (by decide) (by decide)) (Qy (i:=0) (by decide) (by decide))
theorem envQ0 (w:World):Env 1 (fun _=>False) w [.int .i64 6,.int .i64 0,.string ⟨#[]⟩,.slice none 0 0,.slice none 0 0] vQ none 0 []:=
 ⟨repQ _ w,⟨by decide,by decide⟩,by decide,xn _ _,fun _ h=>(nomatch h),by decide⟩
theorem Env.mapped {n:Nat}{S:Nat→Prop}{w w':World}{cs:List Value}{v:V n}{a:Option Addr}{c mb:Nat}{l:List yh}(h:Env n S w cs v a c l) (hS:¬ S mb) (hm:kind w mb=1) (k:zb [mb] w w'):Env n S w' cs v a c l:=
 ⟨h.rep.kept k (fun g hg=>by rw [List.mem_singleton] at hg;rw [hg];exact hS),h.small,h.deep,Slc.mapped h.rows (by decide) hm k,h.texts,h.few⟩
theorem zar (w:World) (xs:List ByteArray) (t:Nat) (hm:xs.length≤maxLen):xg (w.alloc (.cells (xs.map Value.string).toArray t)) (.slice (some ⟨w.heap.size,0,none⟩) xs.length xs.length) xs:=zV w (xs.map Value.string) 1 xs.length _ _ rfl (by simp) hm
theorem zae {W0:World}(ht0:ql W0) (hks0:xz W0) {S:Nat→Prop}{w:World}(hk0:zb [] W0 w) {cs:List Value}{a:Option Addr}{c:Nat}{l:List yh}(h:Env 1 S w cs vQ a c l) (hm:zW 1 vQ l=true) (hl:l.length≤2) {sg:Nat}{sa la:Option Addr}{sc lc mb j:Nat}(hs:vh w sg sa la sc lc mb j) (hmb:W0.heap.size≤mb) (hS:¬ S mb) (hj:j < 2) :
  Calls Tryz.prog 17 #[.agg (vt cs a l.length c).toArray,.pointer (some ⟨sg,0,none⟩)] w fun e w'=>(∃ kd nm st p1 i1 d1 p2 i2 d2 a' c',e = .returned (.tuple #[.agg #[.int .i64 kd,.int .i64 nm,.string st,.slice p1 i1 d1,.slice p2 i2 d2,.slice a' (l.length + 1) c'],.int .i64 0])∧Env 1 (fun g=>w.heap.size≤g) w' [.int .i64 kd,.int .i64 nm,.string st,.slice p1 i1 d1,.slice p2 i2 d2] vQ a' c' (l ++ [Y3 j mQ]))∧vh w' sg sa la sc lc mb (j + 1)∧zb [mb] w w':=by
 have h1:=sgnSign_any ht0 hks0 hk0 h hm hl hs hmb hS hj
 rw [body_ok hm] at h1
 exact h1
set_option maxRecDepth 100000 in
theorem lives18_any {w:World}(ht:ql w) (hks:xz w) :
  Calls Tryz.prog 8 #[] w fun e w'=>e = .returned (.bool true)∧zb [] w w':=by
 obtain⟨W1,Gu⟩:∃ W1,Hid (W1=w.alloc (.cells #[.int .u8 113] 5 (1,2))):=⟨_,qI rfl⟩
 have Gv:Hid (zb [] w W1):=qI (by rw [Gu.o];exact (zb.refl _ w).alloc _)
 have Js:Hid (zp W1 (.slice (some ⟨w.heap.size,0,none⟩) 1 1) [113]):=qI (by
  rw [Gu.o]
  refine⟨rfl,.inr (.inr ⟨w.heap.size,0,1,rfl,Nat.le_refl _,by decide,?_,by simp⟩)⟩
  intro j u hu
  rw [Nat.zero_add,cell_of_row _ w.heap.size j #[.int .u8 113] 5 (1,2) (heap_alloc_new w _)]
  rw [show ([113]:List UInt8).map bv=[.int .u8 113] from rfl] at hu
  simpa using hu)
 have HT:=qI ht
 have Jg:=qI hks
 have CN:=qI (JC Js.o (hks.kept0 Gv.o))
 clear ht hks
 have kc:=fun (w:World) (C:Array Value) (n c:Nat)=>Lib.run_convert_bytes_const (P:=Tryz.prog) w 53 5 C n c underlying53 underlying5
 go_enter func8,ntmps8
 go_upto_region 2 with (go_at_call 16;change Calls _ _ _ (w.alloc (.cells #[.int .u8 113] 5 (1,2))) _;rw [← Gu.o];refine CN.o.mono ?_;rintro e w2 ⟨⟨sg,sa,sc,la,lc,mb,rfl,hsg,hsd,hlv,hmp,hmb⟩,hk2⟩;have Jh:Hid (vh w2 sg sa la sc lc mb 0):=qI ⟨0,_,⟨hsg,hsd,hlv,hmp⟩,Nat.le_refl _,fun _ _=>by simp,fun _ _ h=>(nomatch h)⟩;have Gw:Hid (w.heap.size≤mb):=qI (Nat.le_trans Gv.o.size hmb);have Ji:=qI (Gv.o.then hk2);clear hsg hsd hlv hmp hmb hk2)
 have CS1:=qI (zae HT.o Jg.o Ji.o (envQ0 w2) (env_ok [] (by decide) rfl) (by decide) Jh.o Gw.o (fun h=>h) (by decide))
 go_upto_region 5 with (go_at_call 17;refine CS1.o.mono ?_;rintro e w3 ⟨⟨kd,nm,st,p1,i1,d1,p2,i2,d2,a1,c1,rfl,he⟩,hsj,hk3⟩;have Jt:=qI he;have Ju:=qI hsj;have Jj:Hid (zb [mb] w2 w3):=qI hk3;clear he hsj hk3)
 obtain⟨W4,Gx⟩:∃ W4,Hid (W4=w3.alloc (.cells #[.int .i64 kd,.int .i64 nm,.string st,.slice p1 i1 d1,.slice p2 i2 d2,.slice a1 1 c1] 28)):=⟨_,qI rfl⟩
 have Gj:Hid (zb [] w3 W4):=qI (by rw [Gx.o];exact (zb.refl _ w3).alloc _)
 have Gn:Hid (ZB W4 w3.heap.size kd nm st (.slice p1 i1 d1) (.slice p2 i2 d2) (.slice a1 1 c1)):=qI (by rw [Gx.o];exact zd rfl)
 change Code.wp _ _ _ _ (w3.alloc (.cells #[.int .i64 kd,.int .i64 nm,.string st,.slice p1 i1 d1,.slice p2 i2 d2,.slice a1 1 c1] 28))
 rw [← Gx.o]
 have Jk:Hid (Env 1 (fun g=>w2.heap.size≤g) W4 [.int .i64 kd,.int .i64 nm,.string st,.slice p1 i1 d1,.slice p2 i2 d2] vQ a1 c1 l1Q):=qI (Jt.o.kept0 Gj.o)
 have Jl:=qI (Ju.o.kept0 Gj.o)
 have Gy:Hid (mb < w2.heap.size):=qI Jh.o.lt.1
 have Jm:Hid (zb [] w W4):=qI ((Ji.o.trans Jj.o (by intro i hi;rw [List.mem_singleton] at hi;subst hi;exact .inr Gw.o)).then Gj.o)
 have CS2:=qI (zae HT.o Jg.o Jm.o Jk.o env1 (by decide) Jl.o Gw.o (by have:=Gy.o;omega) (by decide))
 have b0:=za (o:=0) Gn.o rfl
 have b1:=za (o:=1) Gn.o rfl
 have b2:=za (o:=2) Gn.o rfl
 have b3:=za (o:=3) Gn.o rfl
 have b4:=za (o:=4) Gn.o rfl
 have b5:=za (o:=5) Gn.o rfl
 clear kc
 go_upto_region 6 with (go_at_call 17;refine CS2.o.mono ?_;rintro e w5 ⟨⟨kd',nm',st',q1,j1,h1,q2,j2,h2,a2,c2,rfl,he⟩,hsj,hk5⟩;have Jv:=qI he;have Jw:=qI hsj;have Gz:Hid (zb [mb] W4 w5):=qI hk5;clear he hsj hk5 b0 b1 b2 b3 b4 b5)
 obtain⟨W6,Ja⟩:∃ W6,Hid (W6=w5.alloc (.cells #[.int .i64 kd',.int .i64 nm',.string st',.slice q1 j1 h1,.slice q2 j2 h2,.slice a2 2 c2] 28)):=⟨_,qI rfl⟩
 have Gg:Hid (zb [] w5 W6):=qI (by rw [Ja.o];exact (zb.refl _ w5).alloc _)
 have Jx:Hid (ZB W6 w5.heap.size kd' nm' st' (.slice q1 j1 h1) (.slice q2 j2 h2) (.slice a2 2 c2)):=qI (by rw [Ja.o];exact zd rfl)
 change Code.wp _ _ _ _ (w5.alloc (.cells #[.int .i64 kd',.int .i64 nm',.string st',.slice q1 j1 h1,.slice q2 j2 h2,.slice a2 2 c2] 28))
 rw [← Ja.o]
 have Jy:Hid (ZB W6 w3.heap.size kd nm st (.slice p1 i1 d1) (.slice p2 i2 d2) (.slice a1 1 c1)):=qI (Gg.o.heap (Gz.o.heap Gn.o (by have:=Gy.o;have:=Jj.o.size;simp;omega)) (by simp))
 have HF:Hid (Env 1 (fun g=>W4.heap.size≤g) W6 [.int .i64 kd',.int .i64 nm',.string st',.slice q1 j1 h1,.slice q2 j2 h2] vQ a2 c2 l2Q):=qI (Jv.o.kept0 Gg.o)
 have HE:Hid (Env 1 (fun g=>w2.heap.size≤g) W6 [.int .i64 kd,.int .i64 nm,.string st,.slice p1 i1 d1,.slice p2 i2 d2] vQ a1 c1 l1Q):=qI ((Jk.o.mapped (by have:=Gy.o;omega) Jl.o.lt.2 Gz.o).kept0 Gg.o)
 have Jz:=qI (Jw.o.kept0 Gg.o)
 have Jn:Hid (zb [] w W6):=qI ((Jm.o.trans Gz.o (by intro i hi;rw [List.mem_singleton] at hi;subst hi;exact .inr Gw.o)).then Gg.o)
 have Jo:=qI (And.intro (HT.o.kept0 Jn.o) (Jg.o.kept0 Jn.o))
 clear Ja Gg Jv Jw CS2 Jk Jl Gn Gj Gx Jt Ju CS1 Ji Jh CN Js Gu Gv Gz Jm Jj Gy
 obtain⟨id,Jb⟩:∃ id,Hid (id=idQ):=⟨_,qI rfl⟩
 obtain⟨oid,Jc⟩:∃ oid,Hid (oid=idO):=⟨_,qI rfl⟩
 obtain⟨kk,Jd⟩:∃ kk,Hid (kk=k8 xB):=⟨_,qI rfl⟩
 have Gp:Hid (kk.root.length=32∧kx kk.bits):=qI (by rw [Jd.o];exact⟨yP _ _,by constructor <;> decide⟩)
 have CP:Hid (∀ w2,zb [] W6 w2→Calls Tryz.prog 19 #[.pointer (some ⟨sg,0,none⟩)] w2 fun e w'=>e = .returned (.agg (yi kk))∧zb [] w2 w'):=qI (fun w2 h1=>by rw [Jd.o];exact Kt (Jz.o.kept0 h1).key (yP _ _))
 have CI:Hid (∀ w2,Calls Tryz.prog 18 #[.agg (yi kk)] w2 fun e w'=>e = .returned (.string id)∧zb [] w2 w'):=qI (fun w2=>by
  have h1:=Z4 kk Gp.o.2 Gp.o.1 w2
  rw [Jd.o] at h1 ⊢
  rw [Jb.o]
  exact h1)
 have CO:Hid (∀ w2,Calls Tryz.prog 18 #[.agg (yi k0)] w2 fun e w'=>e = .returned (.string oid)∧zb [] w2 w'):=qI (fun w2=>by
  rw [Jc.o]
  exact Z4 k0 (by constructor <;> decide) rfl w2)
 go_upto_region 8 with first
  | (have hq8:=Ma.o;go_at_call 18;refine (CO.o _).mono ?_;rintro e w9 ⟨rfl,hk9⟩;have Mb:=qI (Ma.o.then hk9);clear hk9 hq8)
  | (go_at_call 18;refine (CI.o _).mono ?_;rintro e w8 ⟨rfl,hk8⟩;have Ma:=qI (Mk.o.then hk8);clear hk8)
  | (go_at_call 19;refine (CP.o _ (zb.refl _ _)).mono ?_;rintro e w7 ⟨rfl,hk7⟩;have Mk:=qI hk7;clear hk7)
 go_upto_region 9 with first
  | (refine Qx (by rfl) (.tmp 43) (.tmp 45) (by rfl) Gp.o.1 (by rfl) (by rfl) ?_)
  | (refine QA (by rfl) (.tmp 46) (by rfl) Gp.o.1 (by rfl) ?_)
  | (go_at_call 19;refine (CP.o _ Mb.o).mono ?_;rintro e w10 ⟨rfl,hk10⟩;have Jp:=qI (Mb.o.then hk10);clear hk10)
 obtain⟨W11,Gk⟩:∃ W11,Hid (W11=w10.alloc (.cells (qR id kk).toArray 49)):=⟨_,qI rfl⟩
 rw [← Gk.o]
 have Jq:Hid (zb [] W6 W11):=qI (by rw [Gk.o];exact Jp.o.alloc _)
 have Gr:Hid (qo W11 (.slice (some ⟨w10.heap.size,0,none⟩) 1 1) [⟨id,kk⟩]):=qI ⟨by
  rw [Gk.o,show vY [⟨id,kk⟩]=qR id kk by simp [vY,xT.enc]]
  exact zV w10 (qR id kk) 35 1 _ _ rfl (xO Gp.o.1) (by decide),fun r hr=>by rw [List.mem_singleton] at hr;subst hr;exact Gp.o,by simp⟩
 generalize w10.heap.size=gk at Gr
 go_upto_region 11 with fail
 obtain⟨W12,Ge⟩:∃ W12,Hid (W12=(((W11.alloc (.cells #[.string id] 9)).alloc (.cells #[.slice (some ⟨W11.heap.size,0,none⟩) 1 1,.int .i64 1] 31)).alloc (.cells #[.string oid,.string id] 9)).alloc (.cells #[.slice (some ⟨W11.heap.size + 2,0,none⟩) 2 2,.int .i64 2] 31)):=⟨_,qI rfl⟩
 change Code.wp _ _ _ _ ((((W11.alloc (.cells #[.string id] 9)).alloc (.cells #[.slice (some ⟨W11.heap.size,0,none⟩) 1 1,.int .i64 1] 31)).alloc (.cells #[.string oid,.string id] 9)).alloc (.cells #[.slice (some ⟨W11.heap.size + 2,0,none⟩) 2 2,.int .i64 2] 31))
 rw [← Ge.o]
 have Gi:Hid (zb [] W11 W12):=qI (by rw [Ge.o];exact ((((zb.refl _ _).alloc _).alloc _).alloc _).alloc _)
 have Gf:Hid (zb [] W6 W12):=qI (Jq.o.then Gi.o)
 have Je:Hid (RolAt W12 (W11.heap.size + 1) (.slice (some ⟨W11.heap.size,0,none⟩) 1 1) 1):=qI (by rw [Ge.o];exact (((zb.refl [] _).alloc _).alloc _).heap (zd (by simp)) (by simp))
 have Jf:Hid (RolAt W12 (W11.heap.size + 3) (.slice (some ⟨W11.heap.size + 2,0,none⟩) 2 2) 2):=qI (by rw [Ge.o];exact zd (by simp))
 have Jr:Hid (id.size≤140737488355328∧oid.size≤140737488355328):=qI (by rw [Jb.o,Jc.o];unfold idQ idO;rw [QT mayQ.1,QT mayQ.2];decide)
 have Gt:Hid (jA W12 (some ⟨W11.heap.size,0,none⟩) 1 ⟨[id],1⟩):=qI ⟨by
  rw [Ge.o]
  exact xg.kept0 (zar W11 [id] 9 (by show (1:Nat)≤maxLen;decide)) ((((zb.refl _ _).alloc _).alloc _).alloc _),fun k hk=>by rw [List.mem_singleton] at hk;subst hk;exact Jr.o.1,by simp⟩
 have Gs:Hid (jA W12 (some ⟨W11.heap.size + 2,0,none⟩) 2 ⟨[oid,id],2⟩):=qI ⟨by
  rw [Ge.o]
  have h9:=zar ((W11.alloc (.cells #[.string id] 9)).alloc (.cells #[.slice (some ⟨W11.heap.size,0,none⟩) 1 1,.int .i64 1] 31)) [oid,id] 9 (by show (2:Nat)≤maxLen;decide)
  rw [show ((W11.alloc (.cells #[.string id] 9)).alloc (.cells #[.slice (some ⟨W11.heap.size,0,none⟩) 1 1,.int .i64 1] 31)).heap.size=W11.heap.size + 2 by simp] at h9
  exact xg.kept0 h9 ((zb.refl _ _).alloc _),fun k hk=>by
   rcases List.mem_cons.1 hk with rfl | hk
   ·exact Jr.o.2
   ·rw [List.mem_singleton] at hk;subst hk;exact Jr.o.1,by simp⟩
 have Ga:=qI (Gr.o.kept0 Gi.o)
 have Gh:=qI (HF.o.kept0 Gf.o)
 have Gl:=qI (HE.o.kept0 Gf.o)
 have Gb:=qI (And.intro (Jo.o.1.kept0 Gf.o) (Jo.o.2.kept0 Gf.o))
 have Gc:=qI (Gf.o.heap Jx.o (by simp))
 have Gd:=qI (Gf.o.heap Jy.o (by simp))
 clear Gk Ge HF HE Jo Jx Jy Gr CP CI CO Jz
 generalize W11.heap.size=gw at Je Jf Gt Gs ⊢
 have Gm:Hid (zL 1 vQ l1Q ⟨[id],1⟩ [⟨id,kk⟩]=[id]∧zL 1 vQ l1Q ⟨[oid,id],2⟩ [⟨id,kk⟩]=[id]∧zL 1 vQ l2Q ⟨[oid,id],2⟩ [⟨id,kk⟩]=[id]∧zL 1 vQ l1Q ⟨[id],1⟩ []=[]∧yT 1 vQ l2Q [⟨id,kk⟩] id=true):=qI (by
  rw [Jb.o,Jc.o,Jd.o]
  exact⟨valid1,valid2 env1 (by simp [l1Q]),valid2 env2 (by simp [l2Q]),valid0,Kh env2 (by simp [l2Q])⟩)
 have Gq:Hid (xF ⟨[id],1⟩ 1=0∧xF ⟨[oid,id],2⟩ 1=180∧xF ⟨[id],1⟩ 0=180∧je ⟨[oid,id],2⟩ 1=1∧je ⟨[],0⟩ 0 = -1):=qI (by
  rw [Jb.o,Jc.o]
  exact⟨enough1,enough2,enough0,miss2,rfl⟩)
 have CV:Hid (∀ w2,zb [] W12 w2→Calls Tryz.prog 12 #[.agg #[.int .i64 kd',.int .i64 nm',.string st',.slice q1 j1 h1,.slice q2 j2 h2,.slice a2 2 c2],.agg #[.slice (some ⟨gw + 2,0,none⟩) 2 2,.int .i64 2],.slice (some ⟨gk,0,none⟩) 1 1] w2 fun e w'=>(∃ q d,e = .returned (.slice q 1 d)∧xg w' (.slice q 1 d) [id])∧zb [] w2 w'):=qI (fun w2 hk=>by
  have h9:=Zh (Gh.o.kept0 hk) (Gb.o.1.kept0 hk) (Gb.o.2.kept0 hk) (Gs.o.kept0 hk) (keys:=[⟨id,kk⟩]) (Ga.o.kept0 hk)
  rw [Gm.o.2.2.1] at h9
  exact h9)
 have CE1:Hid (∀ w2,zb [] W12 w2→Calls Tryz.prog 15 #[.agg #[.int .i64 kd,.int .i64 nm,.string st,.slice p1 i1 d1,.slice p2 i2 d2,.slice a1 1 c1],.agg #[.slice (some ⟨gw,0,none⟩) 1 1,.int .i64 1],.slice (some ⟨gk,0,none⟩) 1 1] w2 fun e w'=>e = .returned (.int .i64 0)∧zb [] w2 w'):=qI (fun w2 hk=>by
  have h9:=jG (Gl.o.kept0 hk) (Gb.o.1.kept0 hk) (Gb.o.2.kept0 hk) (Gt.o.kept0 hk) (keys:=[⟨id,kk⟩]) (Ga.o.kept0 hk)
  rw [Gm.o.1,show ([id]:List ByteArray).length=1 from rfl,Gq.o.1] at h9
  exact h9)
 have CE2:Hid (∀ w2,zb [] W12 w2→Calls Tryz.prog 15 #[.agg #[.int .i64 kd',.int .i64 nm',.string st',.slice q1 j1 h1,.slice q2 j2 h2,.slice a2 2 c2],.agg #[.slice (some ⟨gw + 2,0,none⟩) 2 2,.int .i64 2],.slice (some ⟨gk,0,none⟩) 1 1] w2 fun e w'=>e = .returned (.int .i64 180)∧zb [] w2 w'):=qI (fun w2 hk=>by
  have h9:=jG (Gh.o.kept0 hk) (Gb.o.1.kept0 hk) (Gb.o.2.kept0 hk) (Gs.o.kept0 hk) (keys:=[⟨id,kk⟩]) (Ga.o.kept0 hk)
  rw [Gm.o.2.2.1,show ([id]:List ByteArray).length=1 from rfl,Gq.o.2.1] at h9
  exact h9)
 have CM1:Hid (∀ w2,zb [] W12 w2→Calls Tryz.prog 20 #[.agg #[.int .i64 kd',.int .i64 nm',.string st',.slice q1 j1 h1,.slice q2 j2 h2,.slice a2 2 c2],.agg #[.slice (some ⟨gw + 2,0,none⟩) 2 2,.int .i64 2],.slice (some ⟨gk,0,none⟩) 1 1] w2 fun e w'=>e = .returned (.int .i64 1)∧zb [] w2 w'):=qI (fun w2 hk=>by
  have h9:=bC (Gh.o.kept0 hk) (Gb.o.1.kept0 hk) (Gb.o.2.kept0 hk) (Gs.o.kept0 hk) (keys:=[⟨id,kk⟩]) (Ga.o.kept0 hk)
  rw [Gm.o.2.2.1,show ([id]:List ByteArray).length=1 from rfl,Gq.o.2.2.2.1] at h9
  exact h9)
 have CM0:Hid (∀ w2,zb [] W12 w2→Calls Tryz.prog 20 #[.agg #[.int .i64 kd',.int .i64 nm',.string st',.slice q1 j1 h1,.slice q2 j2 h2,.slice a2 2 c2],.agg #[.slice none 0 0,.int .i64 0],.slice (some ⟨gk,0,none⟩) 1 1] w2 fun e w'=>e = .returned (.int .i64 (-1))∧zb [] w2 w'):=qI (fun w2 hk=>by
  have h9:=bC (r:=⟨[],0⟩) (ra:=none) (rc:=0) (Gh.o.kept0 hk) (Gb.o.1.kept0 hk) (Gb.o.2.kept0 hk) ⟨xn _ _,fun _ h=>(nomatch h),by simp⟩ (keys:=[⟨id,kk⟩]) (Ga.o.kept0 hk)
  rw [show je ⟨[],0⟩ _ = -1 from rfl] at h9
  exact h9)
 have CG:Hid (∀ w2,zb [] W12 w2→Calls Tryz.prog 21 #[.agg #[.int .i64 kd',.int .i64 nm',.string st',.slice q1 j1 h1,.slice q2 j2 h2,.slice a2 2 c2],.slice (some ⟨gk,0,none⟩) 1 1] w2 fun e w'=>(∃ q d,e = .returned (.slice q 1 d))∧zb [] w2 w'):=qI (fun w2 hk=>by
  have h9:=zay (Gh.o.kept0 hk) (Gb.o.1.kept0 hk) (Gb.o.2.kept0 hk) (kr:=⟨id,kk⟩) (Ga.o.kept0 hk) Gm.o.2.2.2.2
  exact h9)
 have CB:Hid (∀ w2,zb [] W12 w2→Calls Tryz.prog 10 #[.agg #[.int .i64 kd,.int .i64 nm,.string st,.slice p1 i1 d1,.slice p2 i2 d2,.slice a1 1 c1],.agg #[.slice (some ⟨gw,0,none⟩) 1 1,.int .i64 1],.agg #[.slice (some ⟨gw + 2,0,none⟩) 2 2,.int .i64 2],.slice (some ⟨gk,0,none⟩) 1 1,.slice (some ⟨gk,0,none⟩) 1 1] w2 fun e w'=>e = .returned (.int .i64 180)∧zb [] w2 w'):=qI (fun w2 hk=>by
  have h9:=both_any (Gl.o.kept0 hk) (Gb.o.1.kept0 hk) (Gb.o.2.kept0 hk) (Gt.o.kept0 hk) (Gs.o.kept0 hk) (keys:=[⟨id,kk⟩]) (Ga.o.kept0 hk) (under:=[⟨id,kk⟩]) (Ga.o.kept0 hk)
  rw [Gm.o.1,Gm.o.2.1,show ([id]:List ByteArray).length=1 from rfl,Gq.o.1,Gq.o.2.1] at h9
  exact h9)
 have CE0:Hid (∀ w2,zb [] W12 w2→Calls Tryz.prog 15 #[.agg #[.int .i64 kd,.int .i64 nm,.string st,.slice p1 i1 d1,.slice p2 i2 d2,.slice a1 1 c1],.agg #[.slice (some ⟨gw,0,none⟩) 1 1,.int .i64 1],.slice none 0 0] w2 fun e w'=>e = .returned (.int .i64 180)∧zb [] w2 w'):=qI (fun w2 hk=>by
  have h9:=jG (Gl.o.kept0 hk) (Gb.o.1.kept0 hk) (Gb.o.2.kept0 hk) (Gt.o.kept0 hk) (a2:=none) (c2:=0) (keys:=[]) ⟨xn _ _,fun _ h=>(nomatch h),by simp⟩
  rw [Gm.o.2.2.2.1,show ([]:List ByteArray).length=0 from rfl,Gq.o.2.2.1] at h9
  exact h9)
 generalize hgf:w5.heap.size=gf at Gc
 generalize hge:w3.heap.size=ge at Gd
 have HC:Hid (∀ w2,zb [] W12 w2→w2.cell? ⟨gf,0,none⟩=some (.int .i64 kd')∧w2.cell? ⟨gf,1,none⟩=some (.int .i64 nm')∧w2.cell? ⟨gf,2,none⟩=some (.string st')∧w2.cell? ⟨gf,3,none⟩=some (.slice q1 j1 h1)∧w2.cell? ⟨gf,4,none⟩=some (.slice q2 j2 h2)∧w2.cell? ⟨gf,5,none⟩=some (.slice a2 2 c2)∧w2.cell? ⟨ge,0,none⟩=some (.int .i64 kd)∧w2.cell? ⟨ge,1,none⟩=some (.int .i64 nm)∧w2.cell? ⟨ge,2,none⟩=some (.string st)∧w2.cell? ⟨ge,3,none⟩=some (.slice p1 i1 d1)∧w2.cell? ⟨ge,4,none⟩=some (.slice p2 i2 d2)∧w2.cell? ⟨ge,5,none⟩=some (.slice a1 1 c1)∧w2.cell? ⟨gw + 1,0,none⟩=some (.slice (some ⟨gw,0,none⟩) 1 1)∧w2.cell? ⟨gw + 1,1,none⟩=some (.int .i64 1)∧w2.cell? ⟨gw + 1 + 1 + 1,0,none⟩=some (.slice (some ⟨gw + 2,0,none⟩) 2 2)∧w2.cell? ⟨gw + 1 + 1 + 1,1,none⟩=some (.int .i64 2)):=qI (fun w2 hk=>⟨hk.cell (za (o:=0) Gc.o rfl) (by simp),hk.cell (za (o:=1) Gc.o rfl) (by simp),hk.cell (za (o:=2) Gc.o rfl) (by simp),hk.cell (za (o:=3) Gc.o rfl) (by simp),hk.cell (za (o:=4) Gc.o rfl) (by simp),hk.cell (za (o:=5) Gc.o rfl) (by simp),hk.cell (za (o:=0) Gd.o rfl) (by simp),hk.cell (za (o:=1) Gd.o rfl) (by simp),hk.cell (za (o:=2) Gd.o rfl) (by simp),hk.cell (za (o:=3) Gd.o rfl) (by simp),hk.cell (za (o:=4) Gd.o rfl) (by simp),hk.cell (za (o:=5) Gd.o rfl) (by simp),hk.cell (za (o:=0) Je.o rfl) (by simp),hk.cell (za (o:=1) Je.o rfl) (by simp),hk.cell (za (o:=0) Jf.o rfl) (by simp),hk.cell (za (o:=1) Jf.o rfl) (by simp)⟩)
 have Mc:Hid (zb [] W12 W12):=qI (zb.refl _ _)
 obtain⟨f0,f1,f2,f3,f4,f5,g0,g1,g2,g3,g4,g5,r0,r1,t0,t1⟩:=HC.o _ Mc.o
 clear Gm Gq Je Jf Gt Gs Gh Gl Gb Gc Gd Ga Gp
 go_wp2_with first
  | (have hq:=Md.o;go_at_call 15;refine (CE0.o _ hq).mono ?_;rintro e w9 ⟨rfl,hk⟩;have Me:=qI (hq.then hk);clear hk hq f0 f1 f2 f3 f4 f5 g0 g1 g2 g3 g4 g5 r0 r1 t0 t1;obtain⟨f0,f1,f2,f3,f4,f5,g0,g1,g2,g3,g4,g5,r0,r1,t0,t1⟩:=HC.o _ Me.o)
  | (have hq:=Mf.o;go_at_call 10;refine (CB.o _ hq).mono ?_;rintro e w9 ⟨rfl,hk⟩;have Md:=qI (hq.then hk);clear hk hq f0 f1 f2 f3 f4 f5 g0 g1 g2 g3 g4 g5 r0 r1 t0 t1;obtain⟨f0,f1,f2,f3,f4,f5,g0,g1,g2,g3,g4,g5,r0,r1,t0,t1⟩:=HC.o _ Md.o)
  | (have hq:=Mg.o;go_at_call 21;refine (CG.o _ hq).mono ?_;rintro e w9 ⟨⟨qs,ds,rfl⟩,hk⟩;have Mf:=qI (hq.then hk);clear hk hq f0 f1 f2 f3 f4 f5 g0 g1 g2 g3 g4 g5 r0 r1 t0 t1;obtain⟨f0,f1,f2,f3,f4,f5,g0,g1,g2,g3,g4,g5,r0,r1,t0,t1⟩:=HC.o _ Mf.o)
  | (have hq:=Gr.o;go_at_call 20;refine (CM0.o _ hq).mono ?_;rintro e w9 ⟨rfl,hk⟩;have Mg:=qI (hq.then hk);clear hk hq f0 f1 f2 f3 f4 f5 g0 g1 g2 g3 g4 g5 r0 r1 t0 t1;obtain⟨f0,f1,f2,f3,f4,f5,g0,g1,g2,g3,g4,g5,r0,r1,t0,t1⟩:=HC.o _ Mg.o)
  | (have hq:=Mh.o;go_at_call 20;refine (CM1.o _ hq).mono ?_;rintro e w9 ⟨rfl,hk⟩;have Gr:=qI (hq.then hk);clear hk hq f0 f1 f2 f3 f4 f5 g0 g1 g2 g3 g4 g5 r0 r1 t0 t1;obtain⟨f0,f1,f2,f3,f4,f5,g0,g1,g2,g3,g4,g5,r0,r1,t0,t1⟩:=HC.o _ Gr.o)
  | (have hq:=Mi.o;go_at_call 15;refine (CE2.o _ hq).mono ?_;rintro e w9 ⟨rfl,hk⟩;have hcv2:=hk.cell hcv1 (by simp);have Mh:=qI (hq.then hk);clear hk hq f0 f1 f2 f3 f4 f5 g0 g1 g2 g3 g4 g5 r0 r1 t0 t1;obtain⟨f0,f1,f2,f3,f4,f5,g0,g1,g2,g3,g4,g5,r0,r1,t0,t1⟩:=HC.o _ Mh.o)
  | (have hq:=Mj.o;go_at_call 15;refine (CE1.o _ hq).mono ?_;rintro e w9 ⟨rfl,hk⟩;have hcv1:=hk.cell Ml.o.1 (by simp);have Mi:=qI (hq.then hk);clear hk hq f0 f1 f2 f3 f4 f5 g0 g1 g2 g3 g4 g5 r0 r1 t0 t1;obtain⟨f0,f1,f2,f3,f4,f5,g0,g1,g2,g3,g4,g5,r0,r1,t0,t1⟩:=HC.o _ Mi.o)
  | (have hq:=Mc.o;go_at_call 12;refine (CV.o _ hq).mono ?_;rintro e w9 ⟨⟨qv,dv,rfl,htx⟩,hk⟩;have Mj:=qI (hq.then hk);clear hk hq f0 f1 f2 f3 f4 f5 g0 g1 g2 g3 g4 g5 r0 r1 t0 t1;obtain⟨f0,f1,f2,f3,f4,f5,g0,g1,g2,g3,g4,g5,r0,r1,t0,t1⟩:=HC.o _ Mj.o;obtain⟨gv,ov,rfl,hcv⟩:=xg.at (l:=[id]) htx (k:=0) Nat.one_pos;have Ml:Hid (w9.cell? ⟨gv,ov,none⟩=some (.string id)∧True):=qI ⟨hcv,trivial⟩;clear htx hcv)
 go_ret
 exact⟨rfl,Jn.o.then (Gf.o.then Me.o)⟩
end Go.Proofs.YtibnfbglanpoiaaGreatDoor

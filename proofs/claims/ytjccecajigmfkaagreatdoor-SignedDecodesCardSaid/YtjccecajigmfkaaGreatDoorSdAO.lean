/- Parts of one proof, merged: XHO XHQ XHR. -/
import Derived.Test.YtjccecajigmfkaaGreatDoorSdAH
import Derived.Test.YtjccecajigmfkaaGreatDoorSdAN
import Derived.Lib.SlBytesConst
set_option linter.all false
set_option maxHeartbeats 12800000
set_option maxRecDepth 100000
namespace Go.Proofs.YtjccecajigmfkaaGreatDoor
open Go.Proofs.Tryz
open Go.RowKit
attribute [local go_sem] Oper.semAt_some
variable {S:Nat→Prop}{a:Option Addr}{b:List UInt8}{e:Ending}{n:Nat}{w w':World}
theorem rep_v0 {g:Nat}(d:w.heap.size=g)(b:zb [] (w.alloc (.cells #[.string YI,.int .i64 4,.int .i64 0,.string Qq,.slice none 0 0,.slice none 0 0] 41)) w')(e:S g):Rep 11 S w' [.int .i64 6,.int .i64 0,.string ⟨#[]⟩,.slice none 0 0,.slice (some ⟨g,0,none⟩) 1 1] v0:=
 rep_map (n:=10) (m:=[(YI,(kB Qq:VS (V 9)))]) (mcs:=[(YI,[.int .i64 4,.int .i64 0,.string Qq,.slice none 0 0,.slice none 0 0])]) (a:=some ⟨g,0,none⟩) (c:=1)
  (Slc.k0 (yE w [.string YI,.int .i64 4,.int .i64 0,.string Qq,.slice none 0 0,.slice none 0 0] 6 1 _ _ d rfl Wo) b) (zL.cons ⟨rfl,ZM (n:=9) _ _ _⟩ (zL.nil _)) (fun k h=>by
   cases (show some g=some k from h)
   exact e)
theorem env_v0 {g:Nat}(b:w.heap.size=g)(a:zb [] (w.alloc (.cells #[.string YI,.int .i64 4,.int .i64 0,.string Qq,.slice none 0 0,.slice none 0 0] 41)) w')(d:S g):Env 11 S w' [.int .i64 6,.int .i64 0,.string ⟨#[]⟩,.slice none 0 0,.slice (some ⟨g,0,none⟩) 1 1] v0 none 0 []:=
 ⟨rep_v0 b a d,⟨by show (2:Nat)≤20000;decide,by show (9:Nat)≤400000;decide⟩,Wo,xt _ _,fun _ h=>(nomatch h),Wo⟩
theorem leaves1:kD 1=YX 0:=by rw [ZW];rfl
set_option maxHeartbeats 25600000 in
theorem lives17_any (ht:xS w)(ab:kg w) : zG w 6 #[] (.bool true):=by
 obtain⟨t,Gf⟩:=XE ((w.alloc (.cells #[.string YI,.int .i64 4,.int .i64 0,.string Qq,.slice none 0 0,.slice none 0 0] 41)).alloc (.cells #[.int .i64 6,.int .i64 0,.string ⟨#[]⟩,.slice none 0 0,.slice (some ⟨w.heap.size,0,none⟩) 1 1,.slice none 0 0] 28))
 have Gp:Hid (zb [] w t):=qI (kA2 Gf.o)
 have Yr:Hid (Env 11 (fun g=>g<t.heap.size) t [.int .i64 6,.int .i64 0,.string ⟨#[]⟩,.slice none 0 0,.slice (some ⟨w.heap.size,0,none⟩) 1 1] v0 none 0 []):=qI (env_v0 rfl (kA1 Gf.o) (by rw [Gf.o];simp;omega))
 have Ys:Hid (kO t (w.heap.size+1) 6 0 ⟨#[]⟩ (.slice none 0 0) (.slice (some ⟨w.heap.size,0,none⟩) 1 1) (.slice none 0 0)):=qI (by rw [Gf.o];exact zd Wz)
 have Jc:Hid (t.heap.size=w.heap.size+2):=qI (by rw [Gf.o];simp)
 obtain⟨W2,Mv⟩:=XE (t.alloc (.cells #[.int .u8 115] 5 (1,2)))
 have Gu:Hid (zb [] t W2):=qI (kA1 Mv.o)
 have Yt:Hid (zm W2 (.slice (some ⟨t.heap.size,0,none⟩) 1 1) [115]):=qI (by
  rw [Mv.o]
  refine⟨rfl,.inr (.inr ⟨t.heap.size,0,1,rfl,XA,Wo,?_,Wz⟩)⟩
  intro j u hu
  rw [Xd,cell_of_row _ t.heap.size j #[.int .u8 115] 5 (1,2) (heap_alloc_new t _)]
  rw [show ([115]:List UInt8).map bv=[.int .u8 115] from rfl] at hu
  simpa using hu)
 have HT:=qI ht
 have Yu:=qI ab
 have CN:=qI (zbY Yt.o (ab.k0 (Gp.o.then Gu.o)))
 clear ht ab
 obtain⟨r,HR⟩:=XE rS
 obtain⟨G,Mw⟩:=XE (k80 qK)
 have Mx:Hid (G.root.length=32∧YR G.bits):=qI (by rw [Mw.o];exact⟨ko _ _ _,by constructor <;> decide⟩)
 have kc:=fun (w:World) (C:Array Value) (n c:Nat)=>Lib.run_convert_bytes_const (P:=prog) w 32 5 C n c underlying32 underlying5
 go_enter func6,ntmps6
 go_upto_region 2 with fail
 refine yZ Gf.o ?_
 go_upto_region 3 with (go_at_call 14;change Calls _ _ _ (t.alloc (.cells #[.int .u8 115] 5 (1,2))) _;rw [← Mv.o];refine CN.o.mono ?_;rintro e w2 ⟨⟨sg,sa,sc,la,lc,X,rfl,am,az,an,ae,af⟩,ak⟩;have Ye:Hid (Sgn1 w2 sg sa la sc lc X):=qI ⟨am,az,by rw [← leaves1];exact an,ae⟩;have Mi:Hid (t.heap.size≤X):=qI (X7 Gu.o.size af);have Gr:Hid (zb [] t w2):=qI (Gu.o.then ak);clear am az an ae af ak)
 have Ej:Hid (X<w2.heap.size):=qI Ye.o.used.lt
 have Jr:=qI (Yr.o.k0 Gr.o)
 have Ji:=qI (Gr.o.heap Ys.o Wz)
 have Mj:Hid (zb [] w w2):=qI (Gp.o.then Gr.o)
 have au:Hid (Calls prog 15 #[.agg #[.int .i64 6,.int .i64 0,.string ⟨#[]⟩,.slice none 0 0,.slice (some ⟨w.heap.size,0,none⟩) 1 1,.slice none 0 0],.pointer (some ⟨sg,0,none⟩)] w2 fun e w'=>(∃ kd A st B z s p2 v p a' c',e = .returned (.tuple #[.agg #[.int .i64 kd,.int .i64 A,.string st,.slice B z s,.slice p2 v p,.slice a' 1 c'],.int .i64 0])∧Env 11 (fun g=>w2.heap.size≤g) w' [.int .i64 kd,.int .i64 A,.string st,.slice B z s,.slice p2 v p] v0 a' c' [r])∧qc w' sg (.slice sa 1 sc) (.slice la 1 lc) G (.map (some X))∧zb [X] w2 w'):=qI (by
  have k:=sgnSign1_any (HT.o.k0 Gp.o) (Yu.o.k0 Gp.o) Gr.o Jr.o Qj Wo Ye.o Mi.o (by have:=Mi.o;show ¬ (X<t.heap.size);omega)
  rw [body_v0 Qj,show rowS vB=r from HR.o.symm,← Mw.o] at k
  exact k)
 obtain⟨g0,g1,g2,g3,g4,g5⟩:=yz Ji.o
 clear CN Yt Mv Gf Gu
 go_upto_region 6 with (go_at_call 15;refine au.o.mono ?_;rintro e w3 ⟨⟨kd,A,st,B,z,s,p2,v,p,K,c1,rfl,he⟩,ah,ap⟩;have Mk:=qI he;have Yv:=qI ah;have Jd:Hid (zb [X] w2 w3):=qI ap;clear he ah ap g0 g1 g2 g3 g4 g5)
 obtain⟨D,Jj⟩:=XE (w3.alloc (.cells #[.int .i64 kd,.int .i64 A,.string st,.slice B z s,.slice p2 v p,.slice K 1 c1] 28))
 have Gd:Hid (zb [] w3 D):=qI (kA1 Jj.o)
 have Ja:Hid (kO D w3.heap.size kd A st (.slice B z s) (.slice p2 v p) (.slice K 1 c1)):=qI (by rw [Jj.o];exact zd rfl)
 refine yZ Jj.o ?_
 have Yf:Hid (Env 11 (fun g=>w2.heap.size≤g) D [.int .i64 kd,.int .i64 A,.string st,.slice B z s,.slice p2 v p] v0 K c1 [r]):=qI (Mk.o.k0 Gd.o)
 have Yw:=qI (Yv.o.k0 Gd.o)
 have Js:Hid (Env 11 (fun g=>g<t.heap.size) D [.int .i64 6,.int .i64 0,.string ⟨#[]⟩,.slice none 0 0,.slice (some ⟨w.heap.size,0,none⟩) 1 1] v0 none 0 []):=qI ⟨(Jr.o.rep.kept Jd.o (by intro i hi;rw [XS] at hi;subst hi;have:=Mi.o;show ¬ (i<t.heap.size);omega)).k0 Gd.o,Jr.o.small,Jr.o.deep,xt _ _,Jr.o.texts,Jr.o.few⟩
 have Yg:Hid (kO D (w.heap.size+1) 6 0 ⟨#[]⟩ (.slice none 0 0) (.slice (some ⟨w.heap.size,0,none⟩) 1 1) (.slice none 0 0)):=qI (Gd.o.heap (Jd.o.heap Ji.o (by have:=Mi.o;have:=Jc.o;simp;omega)) Wz)
 have Gv:Hid (zb [] w D):=qI ((Mj.o.trans Jd.o (by intro i hi;rw [XS] at hi;subst hi;have:=Mi.o;have:=Jc.o;exact .inr Ws)).then Gd.o)
 have Md:Hid (∀ w2,zb [] D w2→xS w2∧kg w2):=qI (fun w2 h=>⟨HT.o.k0 (Gv.o.then h),Yu.o.k0 (Gv.o.then h)⟩)
 have Gs:Hid (yd 11 v0 [r]=true∧zP 12 (qg v0 [r])∧Kw 11 v0 [r] r G=true):=qI (by rw [HR.o,Mw.o];exact⟨za3,small_one,holds_one⟩)
 obtain⟨EB,Me⟩:=XE ((xV 12 (qg v0 [r])).1)
 have Yh:Hid ((xV 12 (qg v0 [r])).2=0∧Y8 EB = .inr (v0,[r])):=qI (by
  rw [Me.o,HR.o]
  exact⟨by rw [enc_one rS_id.2.1 Kh.2.1 (by rw [rS_id.1,Kh.1];decide)],decE_one⟩)
 have CE:Hid (∀ w2,zb [] D w2→Calls prog 16 #[.agg #[.int .i64 kd,.int .i64 A,.string st,.slice B z s,.slice p2 v p,.slice K 1 c1]] w2 fun e w'=>(∃ q d,e = .returned (.tuple #[.slice q EB.length d,.int .i64 0])∧zm w' (.slice q EB.length d) EB)∧zb [] w2 w'):=qI (fun w2 h=>by
  have k:=Kd (Yf.o.k0 h) Gs.o.1 Wz Gs.o.2.1 (Md.o w2 h).1
  rw [Yh.o.1,← Me.o] at k
  exact k)
 have aw:Hid (∀ w2,zb [] D w2→Calls prog 16 #[.agg #[.int .i64 6,.int .i64 0,.string ⟨#[]⟩,.slice none 0 0,.slice (some ⟨w.heap.size,0,none⟩) 1 1,.slice none 0 0]] w2 fun e w'=>(∃ q d,e = .returned (.tuple #[.slice q 43 d,.int .i64 0])∧zm w' (.slice q 43 d) textN)∧zb [] w2 w'):=qI (fun w2 h=>by
  have k:=Kd (Js.o.k0 h) Qj Wo small_none (Md.o w2 h).1
  rw [enc_none] at k
  exact k)
 have CD:Hid (∀ w2,zb [] D w2→∀ q d,zm w2 (.slice q EB.length d) EB→Calls prog 10 #[.slice q EB.length d] w2 fun e w'=>(∃ kd A st B z s p2 v p a c,e = .returned (.tuple #[.agg #[.int .i64 kd,.int .i64 A,.string st,.slice B z s,.slice p2 v p,.slice a 1 c],.int .i64 0])∧Env 11 (fun _=>True) w' [.int .i64 kd,.int .i64 A,.string st,.slice B z s,.slice p2 v p] v0 a c [r])∧zb [] w2 w'):=qI (fun w2 h q d hb=>by
  have k:=Ze hb (Md.o w2 h).1
  unfold qs at k
  rw [Yh.o.2] at k
  exact k)
 have aq:Hid (∀ w2,zb [] D w2→∀ q d,zm w2 (.slice q 2 d) [123,125]→Calls prog 10 #[.slice q 2 d] w2 fun e w'=>e = .returned (.tuple #[.agg #[.int .i64 0,.int .i64 0,.string ⟨#[]⟩,.slice none 0 0,.slice none 0 0,.slice none 0 0],.int .i64 130])∧zb [] w2 w'):=qI (fun w2 h q d hb=>by
  have k:=Ze (b:=[123,125]) hb (Md.o w2 h).1
  unfold qs at k
  rw [decE_braces] at k
  exact k)
 obtain⟨b0,b1,b2,b3,b4,b5⟩:=yz Ja.o
 clear Jj Gd Mk Yv au Jr Ji Jd Yr Ys Mj Ye Yh
 go_upto_region 7 with (go_at_call 16;refine (CE.o _ Wd).mono ?_;rintro e w5 ⟨⟨q5,W,rfl,al⟩,ay⟩;have Yx:=qI al;have y:Hid (zb [] D w5):=qI ay;clear al ay b0 b1 b2 b3 b4 b5)
 have av:=qI (CD.o _ y.o q5 W Yx.o)
 go_upto_region 8 with (go_at_call 10;refine av.o.mono ?_;rintro e w6 ⟨⟨O,N,L,q1,j1,k,q2,j2,h2,a2,c2,rfl,he⟩,a3⟩;have Mf:=qI he;have Jt:Hid (zb [] D w6):=qI (y.o.then a3);clear he a3)
 obtain⟨F,My⟩:=XE (w6.alloc (.cells #[.int .i64 O,.int .i64 N,.string L,.slice q1 j1 k,.slice q2 j2 h2,.slice a2 1 c2] 28))
 have Ml:Hid (zb [] w6 F):=qI (kA1 My.o)
 have Yy:Hid (kO F w6.heap.size O N L (.slice q1 j1 k) (.slice q2 j2 h2) (.slice a2 1 c2)):=qI (by rw [My.o];exact zd rfl)
 refine yZ My.o ?_
 have Jb:Hid (zb [] D F):=qI (Jt.o.then Ml.o)
 obtain⟨W8,Mz⟩:=XE (F.alloc (.cells #[.int .u8 123,.int .u8 125] 5 (2,3)))
 have Ju:Hid (zb [] F W8):=qI (kA1 Mz.o)
 have Yz:Hid (zm W8 (.slice (some ⟨F.heap.size,0,none⟩) 2 2) [123,125]):=qI (by
  rw [Mz.o]
  refine⟨rfl,.inr (.inr ⟨F.heap.size,0,2,rfl,XA,Wo,?_,Wz⟩)⟩
  intro j u hu
  rw [Xd,cell_of_row _ F.heap.size j #[.int .u8 123,.int .u8 125] 5 (2,3) (heap_alloc_new F _)]
  rw [show ([123,125]:List UInt8).map bv=[.int .u8 123,.int .u8 125] from rfl] at hu
  simpa using hu)
 have ax:=qI (aq.o _ (Jb.o.then Ju.o) _ _ Yz.o)
 go_upto_region 9 with (go_at_call 10;change Calls _ _ _ (F.alloc (.cells #[.int .u8 123,.int .u8 125] 5 (2,3))) _;rw [← Mz.o];refine ax.o.mono ?_;rintro e w9 ⟨rfl,H⟩;have Mm:Hid (zb [] F w9):=qI (Ju.o.then H);clear H)
 obtain⟨U,Jv⟩:=XE (w9.alloc (.cells #[.int .i64 0,.int .i64 0,.string ⟨#[]⟩,.slice none 0 0,.slice none 0 0,.slice none 0 0] 28))
 have Gw:Hid (zb [] F U):=qI (by rw [Jv.o];exact Mm.o.alloc _)
 refine yZ Jv.o ?_
 have Gh:Hid (zb [] D U):=qI (Jb.o.then Gw.o)
 have Gi:=qI (Gh.o.heap Yg.o Wz)
 obtain⟨e0,e1,e2,e3,e4,W⟩:=yz Gi.o
 have R:=qI (aw.o _ Gh.o)
 clear kc av ax Yz Mz Ju Jv Mm My CE
 go_upto_region 10 with (go_at_call 16;refine R.o.mono ?_;rintro e m ⟨⟨qz,dz,rfl,a0⟩,Q⟩;have Da:=qI a0;have Gj:Hid (zb [] U m):=qI Q;clear a0 Q e0 e1 e2 e3 e4 W)
 have Y:Hid (zb [] D m):=qI (Gh.o.then Gj.o)
 have Jk:=qI (Y.o.heap Ja.o Wz)
 have Jw:=qI (Y.o.heap Yg.o Wz)
 have Jl:=qI ((Gw.o.then Gj.o).heap Yy.o Wz)
 have Ya:=qI (Yf.o.k0 Y.o)
 have Yb:=qI (Js.o.k0 Y.o)
 have Db:=qI (Mf.o.k0 (Ml.o.then (Gw.o.then Gj.o)))
 have Dc:=qI (Yw.o.k0 Y.o)
 have Gl:Hid (∀ w2,zb [] m w2→xS w2∧kg w2):=qI (fun w2 h=>Md.o w2 (Y.o.then h))
 have CP:Hid (xz m 18 #[.pointer (some ⟨sg,0,none⟩)] (.agg (yV G))):=qI (fun w2 h=>zbK (Dc.o.k0 h) Mx.o.1)
 have aC:Hid (xz m 17 #[.agg #[.int .i64 kd,.int .i64 A,.string st,.slice B z s,.slice p2 v p,.slice K 1 c1],.int .i64 0,.agg (yV G)] (.bool true)):=qI (fun w2 h=>by
  have k:=holds_any (Ya.o.k0 h) (Gl.o w2 h).1 (Gl.o w2 h).2 G Mx.o.2 Mx.o.1 0 Wz
  rw [show Kw 11 v0 [r] ([r][0]) G=true from Gs.o.2.2] at k
  exact k)
 have a7:Hid (xz m 17 #[.agg #[.int .i64 kd,.int .i64 A,.string st,.slice B z s,.slice p2 v p,.slice K 1 c1],.int .i64 1,.agg (yV G)] (.bool false)):=qI (fun w2 h=>by
  have k:=holdsPast_any (Ya.o.k0 h) (Gl.o w2 h).1 Gs.o.1 G 1 Wz Wo
  exact k)
 have CS:Hid (xz m 7 #[.agg #[.int .i64 kd,.int .i64 A,.string st,.slice B z s,.slice p2 v p,.slice K 1 c1],.agg #[.int .i64 O,.int .i64 N,.string L,.slice q1 j1 k,.slice q2 j2 h2,.slice a2 1 c2]] (.bool true)):=qI (fun w2 h=>by
  have k:=sgnSame_any (Ya.o.k0 h) (Db.o.k0 h) Wo (Gl.o w2 h).1
  rw [sameE_self,Gs.o.1] at k
  exact k)
 have a6:Hid (xz m 19 #[.agg #[.int .i64 6,.int .i64 0,.string ⟨#[]⟩,.slice none 0 0,.slice (some ⟨w.heap.size,0,none⟩) 1 1,.slice none 0 0]] (.string Qq)):=qI (fun w2 h=>by
  have k:=kind_any (n:=10) (Yb.o.k0 h) kind_v0 rfl
  exact k)
 have CB:Hid (∀ w2,zb [] m w2→Calls prog 20 #[.agg #[.int .i64 6,.int .i64 0,.string ⟨#[]⟩,.slice none 0 0,.slice (some ⟨w.heap.size,0,none⟩) 1 1,.slice none 0 0]] w2 fun e w'=>(∃ q d,e = .returned (.slice q vB.length d)∧zm w' (.slice q vB.length d) vB)∧zb [] w2 w'):=qI (fun w2 h=>by
  have k:=zbx (Yb.o.k0 h) (Gl.o w2 h).1
  rw [body_v0 Qj] at k
  exact k)
 have aB:Hid (xz m 21 #[.agg #[.int .i64 6,.int .i64 0,.string ⟨#[]⟩,.slice none 0 0,.slice (some ⟨w.heap.size,0,none⟩) 1 1,.slice none 0 0]] (.bool true)):=qI (fun w2 h=>by
  have k:=qZ (Yb.o.k0 h) (Gl.o w2 h).1
  rw [Qj] at k
  exact k)
 have Dr:Hid (∀ w2,zb [] m w2→(convert 32 9 (.slice qz 43 dz)).run prog w2 = .ok (.string ⟨#[123,34,115,105,103,110,97,116,117,114,101,115,34,58,91,93,44,34,115,105,103,110,101,100,34,58,123,34,95,116,121,112,101,34,58,34,114,111,111,116,34,125,125]⟩) w2):=qI (fun w2 h=>by
  have k:=zm.toStr (l:=textN) (Da.o.k0 h)
  exact k)
 have Ds:Hid (∀ (w2:World) q d,zm w2 (.slice q vB.length d) vB→(convert 32 9 (.slice q vB.length d)).run prog w2 = .ok (.string ⟨#[123,34,95,116,121,112,101,34,58,34,114,111,111,116,34,125]⟩) w2):=qI (fun w2 q d h=>by
  have k:=zm.toStr (l:=vB) h
  exact k)
 generalize a5:w3.heap.size=gx at Jk ⊢
 generalize a9:w6.heap.size=gy at Jl ⊢
 clear a5 a9
 obtain⟨b0,b1,b2,b3,b4,b5⟩:=yz Jk.o
 obtain⟨f0,f1,f2,f3,f4,f5⟩:=yz Jl.o
 obtain⟨e0,e1,e2,e3,e4,W⟩:=yz Jw.o
 clear Jk Jl Jw Ya Yb Db Dc Gl Md Da Yf Js Yw Ja Yg Gi Yy Mf aw CD aq R Yx Gs Mx Mw HR Me
 go_wp2
 refine yG (n:=120) 62 [fI (.int .i64 0),
  fT,
  fT,
  fI (.pointer (some ⟨gx,5,none⟩)),
  fI (.slice K 1 c1),
  fI (.int .i64 1),
  fT,
  fT,
  fT,
  fI (.agg #[.int .i64 kd,.int .i64 A,.string st,.slice B z s,.slice p2 v p,.slice K 1 c1]),
  fI (.pointer (some ⟨sg,0,none⟩)),
  fI (.agg (yV G)),
  fT,
  fT,
  fT,
  fI (.agg #[.int .i64 kd,.int .i64 A,.string st,.slice B z s,.slice p2 v p,.slice K 1 c1]),
  fI (.pointer (some ⟨sg,0,none⟩)),
  fI (.agg (yV G)),
  fF,
  fT,
  fT,
  fT,
  fI (.int .i64 0),
  fT,
  fT,
  fT,
  fI (.int .i64 0),
  fT,
  fT,
  fT,
  fI (.agg #[.int .i64 kd,.int .i64 A,.string st,.slice B z s,.slice p2 v p,.slice K 1 c1]),
  fI (.agg #[.int .i64 O,.int .i64 N,.string L,.slice q1 j1 k,.slice q2 j2 h2,.slice a2 1 c2]),
  fT,
  fT,
  fT,
  fI (.int .i64 130),
  fT,
  fT,
  fT,
  fI (.int .i64 0),
  fT,
  fT,
  fT,
  fI (.slice qz 43 dz),
  fI (.string ⟨#[123,34,115,105,103,110,97,116,117,114,101,115,34,58,91,93,44,34,115,105,103,110,101,100,34,58,123,34,95,116,121,112,101,34,58,34,114,111,111,116,34,125,125]⟩),
  fT,
  fT,
  fT,
  fI (.agg #[.int .i64 6,.int .i64 0,.string ⟨#[]⟩,.slice none 0 0,.slice (some ⟨w.heap.size,0,none⟩) 1 1,.slice none 0 0]),
  fI (.string Qq),
  fT,
  fT,
  fT,
  fI (.agg #[.int .i64 6,.int .i64 0,.string ⟨#[]⟩,.slice none 0 0,.slice (some ⟨w.heap.size,0,none⟩) 1 1,.slice none 0 0]),
  J1 vB,
  fI (.string ⟨#[123,34,95,116,121,112,101,34,58,34,114,111,111,116,34,125]⟩),
  fT,
  fT,
  fT,
  fI (.agg #[.int .i64 6,.int .i64 0,.string ⟨#[]⟩,.slice none 0 0,.slice (some ⟨w.heap.size,0,none⟩) 1 1,.slice none 0 0]),
  fT,
  fT] Wr rfl Wr (fun x=>qB) ?_ ?_
 ·refine⟨?_,?_,?_,?_,?_,?_,?_,?_,?_,?_,?_,?_,?_,?_,?_,?_,?_,?_,?_,?_,?_,?_,?_,?_,?_,?_,?_,?_,?_,?_,?_,?_,?_,?_,?_,?_,?_,?_,?_,?_,?_,?_,?_,?_,?_,?_,?_,?_,?_,?_,?_,?_,?_,?_,?_,?_,?_,?_,?_,?_,?_,?_,trivial⟩ <;> intro x w2 f b hd
  ·exact zi
  ·have d0:x 0=_:=hd 0 Wr
   exact zi
  ·have s:x 1=_:=hd 1 Wr
   exact zi
  ·have p:x 2=_:=hd 2 Wr
   exact zi
  ·have p:x 2=_:=hd 2 Wr
   have d3:x 3=_:=hd 3 Wr
   have y5:=f.cell b5 Wz
   exact zi
  ·have p:x 2=_:=hd 2 Wr
   have d4:x 4=_:=hd 4 Wr
   exact zi
  ·have p:x 2=_:=hd 2 Wr
   have d5:x 5=_:=hd 5 Wr
   exact zi
  ·have p:x 2=_:=hd 2 Wr
   have d6:x 6=_:=hd 6 Wr
   exact zi
  ·have d7:x 7=_:=hd 7 Wr
   exact zi
  ·have d8:x 8=_:=hd 8 Wr
   have y0:=f.cell b0 Wz
   have y1:=f.cell b1 Wz
   have y2:=f.cell b2 Wz
   have y3:=f.cell b3 Wz
   have y4:=f.cell b4 Wz
   have y5:=f.cell b5 Wz
   exact zi
  ·have d8:x 8=_:=hd 8 Wr
   exact zi
  ·have d8:x 8=_:=hd 8 Wr
   have aW:x 10=_:=hd 10 Wr
   have E:=CP.o w2 f
   go_wp2_with (go_at_call 18;refine E.mh ?_;rintro e w5 rfl y)
   exact⟨rfl,y.o⟩
  ·have d8:x 8=_:=hd 8 Wr
   have d9:x 9=_:=hd 9 Wr
   have ce:x 11=_:=hd 11 Wr
   have E:=aC.o w2 f
   go_wp2_with (go_at_call 17;refine E.mh ?_;rintro e w5 rfl y)
   exact⟨rfl,y.o⟩
  ·have d8:x 8=_:=hd 8 Wr
   have ck:x 12=_:=hd 12 Wr
   exact zi
  ·have ci:x 13=_:=hd 13 Wr
   exact zi
  ·have J:x 14=_:=hd 14 Wr
   have y0:=f.cell b0 Wz
   have y1:=f.cell b1 Wz
   have y2:=f.cell b2 Wz
   have y3:=f.cell b3 Wz
   have y4:=f.cell b4 Wz
   have y5:=f.cell b5 Wz
   exact zi
  ·have J:x 14=_:=hd 14 Wr
   exact zi
  ·have J:x 14=_:=hd 14 Wr
   have aS:x 16=_:=hd 16 Wr
   have E:=CP.o w2 f
   go_wp2_with (go_at_call 18;refine E.mh ?_;rintro e w5 rfl y)
   exact⟨rfl,y.o⟩
  ·have J:x 14=_:=hd 14 Wr
   have aJ:x 15=_:=hd 15 Wr
   have b6:x 17=_:=hd 17 Wr
   have E:=a7.o w2 f
   go_wp2_with (go_at_call 17;refine E.mh ?_;rintro e w5 rfl y)
   exact⟨rfl,y.o⟩
  ·have J:x 14=_:=hd 14 Wr
   have aF:x 18=_:=hd 18 Wr
   exact zi
  ·have J:x 14=_:=hd 14 Wr
   have aE:x 19=_:=hd 19 Wr
   exact zi
  ·have bb:x 20=_:=hd 20 Wr
   exact zi
  ·have aj:x 21=_:=hd 21 Wr
   exact zi
  ·have aj:x 21=_:=hd 21 Wr
   have aY:x 22=_:=hd 22 Wr
   exact zi
  ·have aj:x 21=_:=hd 21 Wr
   have bk:x 23=_:=hd 23 Wr
   exact zi
  ·have aX:x 24=_:=hd 24 Wr
   exact zi
  ·have a4:x 25=_:=hd 25 Wr
   exact zi
  ·have a4:x 25=_:=hd 25 Wr
   have aI:x 26=_:=hd 26 Wr
   exact zi
  ·have a4:x 25=_:=hd 25 Wr
   have aK:x 27=_:=hd 27 Wr
   exact zi
  ·have aR:x 28=_:=hd 28 Wr
   exact zi
  ·have Z:x 29=_:=hd 29 Wr
   have y0:=f.cell b0 Wz
   have y1:=f.cell b1 Wz
   have y2:=f.cell b2 Wz
   have y3:=f.cell b3 Wz
   have y4:=f.cell b4 Wz
   have y5:=f.cell b5 Wz
   exact zi
  ·have Z:x 29=_:=hd 29 Wr
   have y0:=f.cell f0 Wz
   have y1:=f.cell f1 Wz
   have y2:=f.cell f2 Wz
   have y3:=f.cell f3 Wz
   have y4:=f.cell f4 Wz
   have y5:=f.cell f5 Wz
   exact zi
  ·have Z:x 29=_:=hd 29 Wr
   have aL:x 30=_:=hd 30 Wr
   have cb:x 31=_:=hd 31 Wr
   have E:=CS.o w2 f
   go_wp2_with (go_at_call 7;refine E.mh ?_;rintro e w5 rfl y)
   exact⟨rfl,y.o⟩
  ·have Z:x 29=_:=hd 29 Wr
   have aQ:x 32=_:=hd 32 Wr
   exact zi
  ·have aM:x 33=_:=hd 33 Wr
   exact zi
  ·have ar:x 34=_:=hd 34 Wr
   exact zi
  ·have ar:x 34=_:=hd 34 Wr
   have aO:x 35=_:=hd 35 Wr
   exact zi
  ·have ar:x 34=_:=hd 34 Wr
   have bs:x 36=_:=hd 36 Wr
   exact zi
  ·have bz:x 37=_:=hd 37 Wr
   exact zi
  ·have ag:x 38=_:=hd 38 Wr
   exact zi
  ·have ag:x 38=_:=hd 38 Wr
   have cd:x 39=_:=hd 39 Wr
   exact zi
  ·have ag:x 38=_:=hd 38 Wr
   have aN:x 40=_:=hd 40 Wr
   exact zi
  ·have aZ:x 41=_:=hd 41 Wr
   exact zi
  ·have ad:x 42=_:=hd 42 Wr
   exact zi
  ·have ad:x 42=_:=hd 42 Wr
   have cj:x 43=_:=hd 43 Wr
   have aA:=Dr.o w2 f
   exact zi
  ·have ad:x 42=_:=hd 42 Wr
   have aD:x 44=_:=hd 44 Wr
   exact zi
  ·have ad:x 42=_:=hd 42 Wr
   have ch:x 45=_:=hd 45 Wr
   exact zi
  ·have ba:x 46=_:=hd 46 Wr
   exact zi
  ·have aa:x 47=_:=hd 47 Wr
   have y0:=f.cell e0 Wz
   have y1:=f.cell e1 Wz
   have y2:=f.cell e2 Wz
   have y3:=f.cell e3 Wz
   have y4:=f.cell e4 Wz
   have y5:=f.cell W Wz
   exact zi
  ·have aa:x 47=_:=hd 47 Wr
   have aU:x 48=_:=hd 48 Wr
   have E:=a6.o w2 f
   go_wp2_with (go_at_call 19;refine E.mh ?_;rintro e w5 rfl y)
   exact⟨rfl,y.o⟩
  ·have aa:x 47=_:=hd 47 Wr
   have aV:x 49=_:=hd 49 Wr
   exact zi
  ·have aa:x 47=_:=hd 47 Wr
   have bd:x 50=_:=hd 50 Wr
   exact zi
  ·have aT:x 51=_:=hd 51 Wr
   exact zi
  ·have M:x 52=_:=hd 52 Wr
   have y0:=f.cell e0 Wz
   have y1:=f.cell e1 Wz
   have y2:=f.cell e2 Wz
   have y3:=f.cell e3 Wz
   have y4:=f.cell e4 Wz
   have y5:=f.cell W Wz
   exact zi
  ·have M:x 52=_:=hd 52 Wr
   have aH:x 53=_:=hd 53 Wr
   have E:=CB.o w2 f
   go_wp2_with (go_at_call 20;refine E.mono ?_;rintro e w9 ⟨⟨q9,d9,rfl,I⟩,H⟩;have Dt:=qI I;have Jx:=qI H;clear I H)
   exact⟨⟨q9,d9,rfl,Dt.o⟩,Jx.o⟩
  ·have M:x 52=_:=hd 52 Wr
   obtain⟨q9,e9,bm,I⟩:=hd 54 Wr
   have aA:=Ds.o w2 q9 e9 I
   clear I
   exact zi
  ·have M:x 52=_:=hd 52 Wr
   have b7:x 55=_:=hd 55 Wr
   exact zi
  ·have M:x 52=_:=hd 52 Wr
   have aP:x 56=_:=hd 56 Wr
   exact zi
  ·have cc:x 57=_:=hd 57 Wr
   exact zi
  ·have ai:x 58=_:=hd 58 Wr
   have y0:=f.cell e0 Wz
   have y1:=f.cell e1 Wz
   have y2:=f.cell e2 Wz
   have y3:=f.cell e3 Wz
   have y4:=f.cell e4 Wz
   have y5:=f.cell W Wz
   exact zi
  ·have ai:x 58=_:=hd 58 Wr
   have cg:x 59=_:=hd 59 Wr
   have E:=aB.o w2 f
   go_wp2_with (go_at_call 21;refine E.mh ?_;rintro e w5 rfl y)
   exact⟨rfl,y.o⟩
  ·have ai:x 58=_:=hd 58 Wr
   have aG:x 60=_:=hd 60 Wr
   exact zi
 ·intro x bn f ca hd ao
  have a8:x 61=_:=hd 61 Wo
  have Je:=qI f
  clear hd ao f
  change wpList _ _ _ [_] _ _
  simp only [Xd,Nat.reduceAdd,a8]
  go_wp2_with fail
  go_ret
  exact⟨rfl,Gv.o.then (Y.o.then Je.o)⟩
attribute [local go_sem] Oper.semAt_some
theorem JU.repIn {B:Nat}{g:Nat}{r:Option (V (n+1))}(h:JU B (n+1) g w' e r):∃ k m s p i c q j d,e = .returned (.agg #[.int .i64 k,.int .i64 m,.string s,.slice p i c,.slice q j d])∧Rep (n+1) (fun k=>B≤k∧k<g) w' [.int .i64 k,.int .i64 m,.string s,.slice p i c,.slice q j d] (r.getD (Qw:VS (V n)):VS (V n)):=by
 cases r with
 | none=>exact⟨_,_,_,_,_,_,_,_,_,h,K0 _ _⟩
 | some x=>
  obtain⟨cs,a,h2⟩:=h
  obtain⟨k,m,s,p,i,c,q,j,d,rfl⟩:=h2.conv
  exact⟨k,m,s,p,i,c,q,j,d,a,h2⟩
set_option maxHeartbeats 25600000 in
theorem zaT {c:Nat}(U:zm w (.slice a b.length c) b) : Calls prog 11 #[.slice a b.length c] w fun e w'=>qs b e w'∧zb [] w w':=by
 obtain⟨p,Gf⟩:=XE (w.alloc (.cells #[.int .i64 0,.int .i64 0,.string ⟨#[]⟩,.slice none 0 0,.slice none 0 0,.slice none 0 0] 28));have Gp:Hid (zb [] w p):=qI (kA1 Gf.o);have Yi:Hid (kO p w.heap.size 0 0 ⟨#[]⟩ (.slice none 0 0) (.slice none 0 0) (.slice none 0 0)):=qI (by rw [Gf.o];exact zd rfl);have Jc:Hid (p.heap.size=w.heap.size+1):=qI (by rw [Gf.o];simp);have CP:=qI (qparse_any (U.k0 Gp.o));generalize b.length=bn at CP ⊢;clear U;have Gx:Hid (∀ x,Y8 b = .inl x→∀ e w',e = .returned (.tuple #[.agg #[.int .i64 0,.int .i64 0,.string ⟨#[]⟩,.slice none 0 0,.slice none 0 0,.slice none 0 0],.int .i64 x])→qs b e w'):=qI (fun x h e w' h2=>by unfold qs;rw [h];exact h2);have Gy:Hid (∀ v l,Y8 b = .inr (v,l)→∀ kd D st G F C p2 A E a c w',Env 11 (fun _=>True) w' [.int .i64 kd,.int .i64 D,.string st,.slice G F C,.slice p2 A E] v a c l→qs b (.returned (.tuple #[.agg #[.int .i64 kd,.int .i64 D,.string st,.slice G F C,.slice p2 A E,.slice a l.length c],.int .i64 0])) w'):=qI (fun v l h kd D st G F C p2 A E a c w' h2=>by unfold qs;rw [h];exact⟨_,_,_,_,_,_,_,_,_,_,_,rfl,h2⟩);generalize qs b=ANS at Gx Gy ⊢;have HD:Hid (Y8 b=match yH b with
  | .inl x=>.inl x
  | .inr x=>if bK x (itE x).length=false∧yd 11 (ZN x) (qF x)=true then .inr (ZN x,qF x) else .inl 130):=qI rfl
 have Jy:Hid (∀ x,yH b = .inr x→zP 12 x):=qI (fun x h=>⟨by have:=(bS h).2.1;omega,by have:=(bS h).2.2;omega⟩);unfold kj at CP;generalize aE:Y8 b=DB at HD Gx Gy;generalize yH b=PB at CP HD Jy;clear aE;go_enter func11,ntmps11;go_upto_region 1 with fail;rw [← Gf.o];cases PB with
 | inl x=>simp only at CP HD;obtain rfl:=HD.o;have aM:True:=trivial;go_upto_region 2 with (go_at_call 37;refine CP.o.mono ?_;rintro e w2 ⟨⟨O,n,hn,rfl⟩,z⟩;have HX:=qI O;have Gu:=qI z;clear O z;unfold zeroA);have aD:¬ x=0:=XC HX.o.1;have aK:decide (x=0)=false:=XO aD;have Jm:=qI ((Gu.o.alloc (.cells #[.int .i64 0,.int .i64 0,.string ⟨#[]⟩,.slice none 0 0,.slice none 0 0] 25)).heap Yi.o Wz);have rz:=zau Jm.o;obtain⟨r0,r1,r2,r3,r4,r5⟩:=yz Jm.o;go_wp2_with fail;change bodyPost _ _ _ _ _ (Za (w2.alloc (.cells #[.int .i64 0,.int .i64 0,.string ⟨#[]⟩,.slice none 0 0,.slice none 0 0] 25)) w.heap.size (.int .i64 0) (.int .i64 0) (.string ⟨#[]⟩) (.slice none 0 0) (.slice none 0 0) (.slice none 0 0));have Q:=kW (w2.alloc (.cells #[.int .i64 0,.int .i64 0,.string ⟨#[]⟩,.slice none 0 0,.slice none 0 0] 25)) w.heap.size (.int .i64 0) (.int .i64 0) (.string ⟨#[]⟩) (.slice none 0 0) (.slice none 0 0) (.slice none 0 0);have Gb:=vT Jm.o (.int .i64 0) (.int .i64 0) (.string ⟨#[]⟩) (.slice none 0 0) (.slice none 0 0) (.slice none 0 0);generalize Za (w2.alloc (.cells #[.int .i64 0,.int .i64 0,.string ⟨#[]⟩,.slice none 0 0,.slice none 0 0] 25)) w.heap.size (.int .i64 0) (.int .i64 0) (.string ⟨#[]⟩) (.slice none 0 0) (.slice none 0 0) (.slice none 0 0)=I at Q Gb;obtain⟨y0,y1,y2,y3,y4,y5⟩:=yz Gb;refine bodyPost_ret (v:=.tuple #[.agg #[.int .i64 0,.int .i64 0,.string ⟨#[]⟩,.slice none 0 0,.slice none 0 0,.slice none 0 0],.int .i64 x]) (by simp [results,results11,go_sem,y0,y1,y2,y3,y4,y5]) rfl ?_;exact⟨Gx.o x rfl _ _ rfl,((Gp.o.then Gu.o).alloc _).trans Q (by intro i f;rw [XS] at f;subst f;exact .inr (XA))⟩
 | inr x=>
  simp only at CP HD;have Yj:Hid (zP 12 x):=qI (Jy.o x rfl);have Dd:Hid ((x:VS (V 11)).m.length≤1000000):=qI (by have s:(x:VS (V 11)).l.length+(x:VS (V 11)).m.length<zp 12 x:=JD (n:=11) x;have h2:zp 12 x≤20000:=Yj.o.1;omega);clear Jy;have Ek:Hid (p.heap.size=w.heap.size+1):=Jc;go_upto_region 2 with (go_at_call 37;refine CP.o.mono ?_;rintro e w2 ⟨⟨cs,aH,rfl,ho⟩,z⟩;obtain⟨kp,np,sp,pp,ip,dp,qp,jp,ep,rfl⟩:=aH;have HO:=qI ho.rep;have Gu:=qI z;clear ho z);obtain⟨W3,Mn⟩:=XE (w2.alloc (.cells #[.int .i64 kp,.int .i64 np,.string sp,.slice pp ip dp,.slice qp jp ep] 25));have Gr:Hid (zb [] p W3):=qI (by rw [Mn.o];exact Gu.o.alloc _);have De:Hid (W3.heap[w2.heap.size]? = some (.cells #[.int .i64 kp,.int .i64 np,.string sp,.slice pp ip dp,.slice qp jp ep] 25 (0,0))):=qI (by rw [Mn.o];exact zd rfl);have Df:Hid (Rep 12 (fun g=>p.heap.size≤g) W3 [.int .i64 kp,.int .i64 np,.string sp,.slice pp ip dp,.slice qp jp ep] x):=qI (by rw [Mn.o];exact HO.o.k0 ((zb.refl [] _).alloc _));have Mo:=qI Gr.o.size;refine yZ Mn.o ?_;have CO:=qI (zba (n:=11) (B:=p.heap.size) Df.o (fun _ h=>h));obtain⟨b0,b1,b2,b3,b4⟩:=yD De.o;clear HO Df De Mn CP;go_upto_region 5 with (go_at_call 38;refine CO.o.mono ?_;rintro e w4 ⟨⟨gf,az,rfl,an⟩,a6⟩;have Du:=qI az;have Js:=qI an;have Gv:=qI (Gr.o.then a6);clear az an a6 b0 b1 b2 b3 b4);have CM:Hid (Calls prog 39 #[.pointer (some ⟨gf,0,none⟩),.string JL] w4 fun e w'=>JU p.heap.size 11 gf w' e (fstE x).1∧kZ p.heap.size 11 w' gf x (fstE x).2∧zb [gf] w4 w'):=qI (rmapL_any Js.o Dd.o JL);have Dv:=qI Js.o.lt;go_upto_region 6 with (go_at_call 39;refine CM.o.mono ?_;rintro e w5 ⟨ad,aq,a1⟩;obtain⟨kd,D,st,G,F,C,p2,A,E,rfl,hr5⟩:=JU.repIn (n:=10) ad;have Dg:=qI hr5;have Mp:=qI aq;have Ge:=qI a1;clear ad hr5 aq a1);obtain⟨W6,Jf⟩:=XE (w5.alloc (.cells #[.int .i64 kd,.int .i64 D,.string st,.slice G F C,.slice p2 A E,.slice none 0 0] 28));have Gm:Hid (zb [] w5 W6):=qI (kA1 Jf.o);have Mf:Hid (kO W6 w5.heap.size kd D st (.slice G F C) (.slice p2 A E) (.slice none 0 0)):=qI (by rw [Jf.o];exact zd rfl);have Dh:=qI (Dg.o.k0 Gm.o);have Di:=qI (Mp.o.k0 Gm.o);have Dw:Hid (W6.heap.size=w5.heap.size+1):=qI (by rw [Jf.o];simp);refine yZ Jf.o ?_;have Jg:Hid (w.heap.size<gf∧gf<w4.heap.size∧w4.heap.size≤w5.heap.size):=qI ⟨by have:=Jc.o;have:=Mo.o;have:=Du.o;omega,Dv.o,Ge.o.size⟩;obtain⟨H,Mq⟩:=XE w5.heap.size;have Jt:Hid (zb [] p W6):=qI ((Gv.o.trans Ge.o (by intro i f;rw [XS] at f;subst f;exact .inr (XH Jc.o Jg.o))).then Gm.o);rw [← Mq.o] at Mf ⊢;have CL:Hid (Calls prog 40 #[.pointer (some ⟨gf,0,none⟩),.string bN,.int .i64 16] W6 fun e w'=>(∃ a c lcs,e = .returned (.slice a (kN (JI x).1).length c)∧jG (fun k=>p.heap.size≤k∧k<gf) w' a c (itE x) lcs)∧kZ p.heap.size 11 w' gf x (JI x).2∧zb [gf] W6 w'):=qI (rlistL_any Di.o Dd.o bN 16);obtain⟨N,HN⟩:=XE ((itE x).length);have a9:(N:Int)≤16:=by have s:=itE_len x;have:=HN.o;omega
  have Yk:=qI a9;clear Dg Mp Js CM CO Gm Jf Di;go_wp2_with (go_at_call 40;refine CL.o.mono ?_;rintro e Y ⟨⟨ai,ci,lcs,he,a5⟩,a4,aw⟩;rw [show (kN (JI x).1).length=N from HN.o.symm] at he;subst he;have Dx:Hid (jG (fun k=>p.heap.size≤k∧k<gf) Y ai ci (itE x) lcs):=qI a5;have Dy:=qI a4;have Jb:=qI aw;clear a4 aw a5);have Dz:=qI (Jb.o.heap Mf.o (by have:=Mq.o;have:=Jg.o;simp;omega));have Ea:=qI (Dh.o.kept Jb.o (by intro i f;rw [XS] at f;subst f;have:=Jg.o;omega));have W:Hid (gf<H∧H<W6.heap.size∧W6.heap.size≤Y.heap.size):=qI ⟨by have:=Mq.o;have:=Jg.o;omega,by have:=Mq.o;have:=Dw.o;omega,Jb.o.size⟩;have Mr:Hid (zb [] p Y):=qI (Jt.o.trans Jb.o (by intro i f;rw [XS] at f;subst f;exact .inr (XH Jc.o Jg.o)));have Eb:=qI (Mr.o.heap Yi.o Wz);clear Mf Dh CL Jt Gv Gr Mo;go_loopw [10,11] (fun ak _ wr=>∃ (k:Nat) (L:Option Addr) (K:Nat),ak = .int .i64 k∧k≤N∧kZ p.heap.size 11 wr gf x (bK x k)∧kO wr H kd D st (.slice G F C) (.slice p2 A E) (.slice L k K)∧wr.ownsRow Y.heap.size 38 2 (.slice L k K) k (kI (((itE x).take k).map fun y=>(yF y).1))∧zb [gf,H] Y wr) (fun ak _ _=>N-(intOf ak).toNat);case atStart=>exact⟨0,none,0,rfl,XB,by rw [show bK x 0=(JI x).2 by simp [bK]];exact Dy.o,Dz.o,World.ownsRow_nil _ _ _ _,Wd⟩
  case round=>
   obtain⟨k,L,K,rfl,hk,hf,he,t,a7⟩:=hrel;have HF:=qI hf;have HE:=qI he;have Gg:=qI t;have Mg:=qI a7;clear hf he t a7;by_cases ah:k<N
   ·have af:k<(itE x).length:=by rw [← HN.o];exact ah
    obtain⟨g,o,ys,py,cy,qy,my,dy,rfl,q0,q1,q2,q3,q4,a2⟩:=(Dx.o.kept Mg.o (by intro i f;have:=W.o;simp at f;rcases f with rfl | rfl <;> omega)).atR af;have Yl:=qI a2;have Ym:Hid (zP 10 (itE x)[k]):=qI (itE_small Yj.o _ (XX _));have Ms:=qI (badE_succ x k af);have Yc:=qI (rows_succ x k af);clear a2;have aJ:(k:Int)<N:=Ws;have Mh:=qI ah;generalize (itE x)[k]=y at q0 q1 q3 Yl Ym Ms Yc;clear af ah hk;have CO:=qI (zba (n:=9) (B:=p.heap.size) Yl.o (fun _ h=>h.1));go_upto_region 11 with (go_at_call 38;refine CO.o.mono ?_;rintro e w9 ⟨⟨R,am,rfl,ay⟩,av⟩;have Ec:=qI am;have Dj:=qI ay;have Jx:=qI av;clear am ay av q0 q1 q2 q3 q4);clear Yl;have Yn:Hid ((y:VS (V 9)).m.length≤1000000):=qI (by have s:(y:VS (V 9)).l.length+(y:VS (V 9)).m.length<zp 10 y:=JD (n:=9) y;have h2:zp 10 y≤20000:=Ym.o.1;omega);obtain⟨X,b1,s2,b2,Dk,Dl,Dm⟩:∃ X b1 s2 b2,Hid (jC (n:=9) y (decide ((y:VS (V 9)).kind≠6)) QW 64=(X,b1))∧Hid (jC (n:=9) y b1 Q5 1048576=(s2,b2))∧Hid (yF y=(⟨X,s2⟩,b2)):=⟨_,_,_,_,qI rfl,qI rfl,qI rfl⟩;have aF:Hid (Calls prog 41 #[.pointer (some ⟨R,0,none⟩),.string QW,.int .i64 64] w9.drew fun e w'=>e = .returned (.string X)∧kZ p.heap.size 9 w' R y b1∧zb [R] w9.drew w'):=qI (by
     have s:=zb7 (n:=9) (Dj.o.k0 (zb.refl [] w9).drew) Yn.o QW 64;rw [Dk.o] at s;exact s)
    have aA:Hid (∀ w2,kZ p.heap.size 9 w2 R y b1→Calls prog 41 #[.pointer (some ⟨R,0,none⟩),.string Q5,.int .i64 1048576] w2 fun e w'=>e = .returned (.string s2)∧kZ p.heap.size 9 w' R y b2∧zb [R] w2 w'):=qI (fun w2 h=>by
     have s:=zb7 (n:=9) h Yn.o Q5 1048576;rw [Dl.o] at s;exact s)
    rw [Dm.o] at Ms Yc;simp only at Ms Yc;have Jn:Hid (wr.heap.size≤R∧H<wr.heap.size∧Y.heap.size≤wr.heap.size):=qI ⟨Ec.o,by have:=W.o;have:=Mg.o.size;omega,Mg.o.size⟩;have Dn:=qI (Jx.o.heap HE.o Wz);have c5:=za (o:=5) Dn.o rfl;clear Ym Yn CO Dj Dk Dl Dm;have HX:Hid (kI (((itE x).take k).map fun y=>(yF y).1)=kI (((itE x).take k).map fun y=>(yF y).1)):=qI rfl;go_region_law (first
     | (refine xK tySigs (base:=Y.heap.size) (v:=.slice L k K) (n:=k) (m:=1) (news:=[.string X,.string s2]) (xs:=kI (((itE x).take k).map fun y=>(yF y).1)) (zk Ed.o ((zb.refl [] wb).alloc (.cells #[.string X,.string s2] 38)) Wz) (yE wb [.string X,.string s2] 2 1 _ _ rfl rfl Wo) (by simp [Value.oneCell']) Wo (by have:=Mh.o;have:=Yk.o;simp only [maxLen];omega) (XH Mh.o Yk.o) (by have:=Jn.o;have:=Mt.o.size;have:=Jx.o.size;simp;omega) Wk _ _ Wk Wk Wk ?_;intro P c2 u aa z aB;have Mu:=qI aa;have Gh:=qI z;have ae:=z.heap (((zb.refl [] wb).alloc (.cells #[.string X,.string s2] 38)).heap Me.o Wz) (fun O=>Do.o _ (XD O) (.inl rfl));have u0:=za (o:=5) ae rfl;have uf:=zh (o:=5) ae;have Yo:=qI ae;clear ae aa z aB)
     | (go_simp;go_at_call 41;refine (aA.o _ Ee.o).mono ?_;rintro e wb ⟨rfl,a3,a8⟩;have Ef:=qI a3;have Mt:Hid (zb [R] w9 wb):=qI (Dp.o.trans' a8);have Me:=qI (Mt.o.heap Dn.o (by have:=Jn.o;simp;omega));have Ed:=qI (zk (zk Gg.o Jx.o Wz) Mt.o (fun b U O=>by have s:=(Gg.o.lt b U).2;have:=Jn.o;rw [XS] at O;omega));have Do:Hid (∀ b,(Value.slice L k K).ownBlock=some b→(b=H∨b=R∨b=gf)→False):=qI (fun b U O=>by have s:=Gg.o.lt b U;have:=Jn.o;have:=W.o;omega);have a0:=za (o:=5) Me.o rfl;have aC:=fun cs=>((zb.refl [] wb).alloc (.cells cs 38)).cell a0 Wz;clear a3 a8)
     | (go_simp;go_at_call 41;refine aF.o.mono ?_;rintro e wa ⟨rfl,ao,ap⟩;have Ee:=qI ao;have Dp:Hid (zb [R] w9 wa):=qI (((zb.refl [] w9).drew.mono Wz).trans' ap);have aG:=Dp.o.cell c5 (by have:=Jn.o;simp;omega);clear ao ap))
    all_goals
     obtain⟨ad,-⟩:=Ef.o.c5;have ab:zb [H] u (u.setCell ⟨H,5,none⟩ (.slice (some ⟨P,0,none⟩) (k+1) c2)):=(zb.refl _ u).setCell (.inl Wz) _;have Dq:Hid (kO (u.setCell ⟨H,5,none⟩ (.slice (some ⟨P,0,none⟩) (k+1) c2)) H kd D st (.slice G F C) (.slice p2 A E) (.slice (some ⟨P,0,none⟩) (k+1) c2)):=qI (ze (i:=5) (v:=.slice (some ⟨P,0,none⟩) (k+1) c2) (d:=#[.int .i64 kd,.int .i64 D,.string st,.slice G F C,.slice p2 A E,.slice (some ⟨P,0,none⟩) (k+1) c2]) Yo.o rfl);have Gq:Hid ((u.setCell ⟨H,5,none⟩ (.slice (some ⟨P,0,none⟩) (k+1) c2)).ownsRow Y.heap.size 38 2 (.slice (some ⟨P,0,none⟩) (k+1) c2) (k+1) (kI (((itE x).take (k+1)).map fun y=>(yF y).1))):=qI (by
      rw [Yc.o];exact zk Mu.o ab (fun b U O=>by have s:=(Mu.o.lt b U).1;have:=W.o;rw [XS] at O;omega))
     have Yd:Hid (kZ p.heap.size 11 (u.setCell ⟨H,5,none⟩ (.slice (some ⟨P,0,none⟩) (k+1) c2)) gf x (bK x k)):=qI (((((HF.o.k0 Jx.o).kept Mt.o (by intro i f;rw [XS] at f;have:=Jn.o;have:=W.o;omega)).k0 ((zb.refl [] wb).alloc (.cells #[.string X,.string s2] 38))).kept Gh.o (fun i f=>by have s:=(Gg.o.lt i (XD f)).1;have:=W.o;omega)).kept ab (by intro i f;rw [XS] at f;have:=W.o;omega));have g5:(u.setCell ⟨H,5,none⟩ (.slice (some ⟨P,0,none⟩) (k+1) c2)).cell? ⟨R,5,none⟩=some (.bool b2):=ab.cell (Gh.o.cell (((zb.refl [] wb).alloc (.cells #[.string X,.string s2] 38)).cell ad Wz) (fun O=>Do.o _ (XD O) (.inr (.inl rfl)))) (by have:=Jn.o;simp;omega);have Je:Hid (zb [gf,H] Y (u.setCell ⟨H,5,none⟩ (.slice (some ⟨P,0,none⟩) (k+1) c2))):=qI (((((Mg.o.then Jx.o).trans Mt.o (by intro i f;rw [XS] at f;subst f;exact .inr (XC Jn.o))).alloc (.cells #[.string X,.string s2] 38)).trans Gh.o (fun i f=>.inr (Gg.o.lt i (XD f)).1)).trans ab (by intro i f;rw [XS] at f;subst f;exact .inl Wz));generalize (u.setCell ⟨H,5,none⟩ (.slice (some ⟨P,0,none⟩) (k+1) c2))=I at Dq Gq Yd g5 Je ⊢;obtain⟨aI,aL⟩:=Yd.o.c5;clear ab ad u0 uf c5 aG a0 aC;generalize bK x k=bk at Yd Ms aI;have ks:∀ q:Bool,zb [gf] I (I.setCell ⟨gf,5,none⟩ (.bool q)):=fun q=>(zb.refl _ I).setCell (.inl Wz) _;have Jz:Hid (∀ q,(bk || b2)=q→∃ (k':Nat) (L:Option Addr) (K:Nat),Value.int .i64 ((k:Int)+1) = .int .i64 k'∧k'≤N∧kZ p.heap.size 11 (I.setCell ⟨gf,5,none⟩ (.bool q)) gf x (bK x k')∧kO (I.setCell ⟨gf,5,none⟩ (.bool q)) H kd D st (.slice G F C) (.slice p2 A E) (.slice L k' K)∧(I.setCell ⟨gf,5,none⟩ (.bool q)).ownsRow Y.heap.size 38 2 (.slice L k' K) k' (kI (((itE x).take k').map fun y=>(yF y).1))∧zb [gf,H] Y (I.setCell ⟨gf,5,none⟩ (.bool q))):=qI (fun q hq=>⟨k+1,some ⟨P,0,none⟩,c2,by go_num,Mh.o,by rw [Ms.o,hq];exact Yd.o.put q,(ks q).heap Dq.o (by have:=W.o;simp;omega),zk Gq.o (ks q) (fun b U O=>by have s:=(Gq.o.lt b U).1;have:=W.o;rw [XS] at O;omega),Je.o.trans (ks q) (by intro i f;rw [XS] at f;subst f;exact .inl Wz)⟩);clear ks;cases bk with
     | true=>go_wp2;case roundEnd=>exact⟨Jz.o true rfl,by have:=Mh.o;simp [intOf];omega⟩
     | false=>
      cases b2 with
      | true=>go_wp2;case roundEnd=>exact⟨Jz.o true rfl,by have:=Mh.o;simp [intOf];omega⟩
      | false=>go_wp2;case roundEnd=>exact⟨Jz.o false rfl,by have:=Mh.o;simp [intOf];omega⟩
   ·obtain rfl:k=N:=by omega
    have aN:¬ (k:Int)<k:=Ws;have Je:Hid (zb [] p wr):=qI (Mr.o.trans Mg.o (by intro i f;simp at f;have:=Jc.o;have:=Jg.o;have:=W.o;rcases f with rfl | rfl <;> exact .inr Ws));have Z:(qF x).length=k:=by unfold qF;rw [Xb];exact HN.o.symm
    have ax:((itE x).take k).map (fun y=>(yF y).1)=qF x:=by rw [Xl (by rw [← HN.o];exact XA)];rfl
    have t:=Gg.o;rw [ax] at t;have Jo:Hid (∀ I,zb [w.heap.size] wr I→Env 11 (fun _=>True) I [.int .i64 kd,.int .i64 D,.string st,.slice G F C,.slice p2 A E] (ZN x) L K (qF x)):=qI (fun I au=>⟨((Ea.o.kept Mg.o (by intro i f;simp at f;have:=Jg.o;have:=Mq.o;rcases f with rfl | rfl <;> omega)).kept au (by intro i f;rw [XS] at f;have:=Jg.o;have:=Jc.o;omega)).mono (fun _ _ _=>trivial),zcq (n:=10) Yj.o,Wo,by unfold ky;rw [Z];exact Slc.of_row (zk t au (fun b U O=>by have s:=(Gg.o.lt b U).1;have:=W.o;have:=Jg.o;rw [XS] at O;omega)),fun r hr=>by
     obtain⟨y,-,rfl⟩:=Xm.1 hr;have s:=Kc y;exact⟨Ws,Ws⟩,by rw [Z];have:=Yk.o;omega⟩)
    have Gc:=qI (Jo.o wr (zb.refl [w.heap.size] wr));have Gq:=qI (Je.o.heap Yi.o Wz);have aj:Hid (zG wr 9 #[.agg #[.int .i64 kd,.int .i64 D,.string st,.slice G F C,.slice p2 A E,.slice L k K]] (.bool (yd 11 (ZN x) (qF x)))):=qI (by
     have s:=refMay17_any Gc.o;rw [Z] at s;exact s)
    obtain⟨f5,-⟩:=HF.o.c5;obtain⟨bd,ag⟩:=XF (bK x k);obtain⟨my,al⟩:=XF (yd 11 (ZN x) (qF x));have Yp:Hid (DB=if bd=false∧my=true then .inr (ZN x,qF x) else .inl 130):=qI (by rw [HD.o,← HN.o,← ag,← al]);rw [← ag] at f5;rw [← al] at aj;have Eg:=qI Z;clear t ax Z ag al Gg Gc;obtain⟨c0,c1,c2,c3,c4,c5⟩:=yz HE.o;cases bd with
    | true=>clear c0 c1 c2 c3 c4 c5;obtain⟨r0,r1,r2,r3,r4,r5⟩:=yz Gq.o;have rz:=zau Gq.o;go_wp2_with fail;change bodyPost _ _ _ _ _ (Za wr w.heap.size (.int .i64 0) (.int .i64 0) (.string ⟨#[]⟩) (.slice none 0 0) (.slice none 0 0) (.slice none 0 0));have Q:=kW wr w.heap.size (.int .i64 0) (.int .i64 0) (.string ⟨#[]⟩) (.slice none 0 0) (.slice none 0 0) (.slice none 0 0);have Gb:=vT Gq.o (.int .i64 0) (.int .i64 0) (.string ⟨#[]⟩) (.slice none 0 0) (.slice none 0 0) (.slice none 0 0);generalize Za wr w.heap.size (.int .i64 0) (.int .i64 0) (.string ⟨#[]⟩) (.slice none 0 0) (.slice none 0 0) (.slice none 0 0)=I at Q Gb;obtain⟨y0,y1,y2,y3,y4,y5⟩:=yz Gb;refine bodyPost_ret (v:=.tuple #[.agg #[.int .i64 0,.int .i64 0,.string ⟨#[]⟩,.slice none 0 0,.slice none 0 0,.slice none 0 0],.int .i64 130]) (by simp [results,results11,go_sem,y0,y1,y2,y3,y4,y5]) rfl ?_;exact⟨Gx.o 130 (by rw [Yp.o];simp) _ _ rfl,(Gp.o.then Je.o).trans Q (by intro i f;rw [XS] at f;subst f;exact .inr (XA))⟩
    | false=>
     cases my with
     | false=>go_wp2_with (go_at_call 9;refine aj.o.mono ?_;rintro e M ⟨rfl,j⟩;have Jh:=qI j;have J:=qI (j.heap Gq.o Wz);have Gn:=qI (j.heap HE.o Wz);clear j c0 c1 c2 c3 c4 c5 f5;have r0:=za (o:=0) J.o rfl;have r1:=za (o:=1) J.o rfl;have r2:=za (o:=2) J.o rfl;have r3:=za (o:=3) J.o rfl;have r4:=za (o:=4) J.o rfl;have r5:=za (o:=5) J.o rfl;have rz:=zau J.o);change bodyPost _ _ _ _ _ (Za M w.heap.size (.int .i64 0) (.int .i64 0) (.string ⟨#[]⟩) (.slice none 0 0) (.slice none 0 0) (.slice none 0 0));have Q:=kW M w.heap.size (.int .i64 0) (.int .i64 0) (.string ⟨#[]⟩) (.slice none 0 0) (.slice none 0 0) (.slice none 0 0);have Gb:=vT J.o (.int .i64 0) (.int .i64 0) (.string ⟨#[]⟩) (.slice none 0 0) (.slice none 0 0) (.slice none 0 0);generalize Za M w.heap.size (.int .i64 0) (.int .i64 0) (.string ⟨#[]⟩) (.slice none 0 0) (.slice none 0 0) (.slice none 0 0)=I at Q Gb;obtain⟨y0,y1,y2,y3,y4,y5⟩:=yz Gb;refine bodyPost_ret (v:=.tuple #[.agg #[.int .i64 0,.int .i64 0,.string ⟨#[]⟩,.slice none 0 0,.slice none 0 0,.slice none 0 0],.int .i64 130]) (by simp [results,results11,go_sem,y0,y1,y2,y3,y4,y5]) rfl ?_;exact⟨Gx.o 130 (by rw [Yp.o];simp) _ _ rfl,((Gp.o.then Je.o).then Jh.o).trans Q (by intro i f;rw [XS] at f;subst f;exact .inr (XA))⟩
     | true=>
      have Eh:Hid (DB = .inr (ZN x,qF x)):=qI (by rw [Yp.o];simp);go_wp2_with (go_at_call 9;refine aj.o.mono ?_;rintro e M ⟨rfl,j⟩;have Jh:=qI j;have J:=qI (j.heap Gq.o Wz);have Gn:=qI (j.heap HE.o Wz);clear j c0 c1 c2 c3 c4 c5 f5;have r0:=za (o:=0) J.o rfl;have r1:=za (o:=1) J.o rfl;have r2:=za (o:=2) J.o rfl;have r3:=za (o:=3) J.o rfl;have r4:=za (o:=4) J.o rfl;have r5:=za (o:=5) J.o rfl;have rz:=zau J.o;have x0:=za (o:=0) Gn.o rfl;have x1:=za (o:=1) Gn.o rfl;have x2:=za (o:=2) Gn.o rfl;have x3:=za (o:=3) Gn.o rfl;have x4:=za (o:=4) Gn.o rfl;have x5:=za (o:=5) Gn.o rfl);change bodyPost _ _ _ _ _ (Za M w.heap.size (.int .i64 kd) (.int .i64 D) (.string st) (.slice G F C) (.slice p2 A E) (.slice L k K));have Q:=kW M w.heap.size (.int .i64 kd) (.int .i64 D) (.string st) (.slice G F C) (.slice p2 A E) (.slice L k K);have Gb:=vT J.o (.int .i64 kd) (.int .i64 D) (.string st) (.slice G F C) (.slice p2 A E) (.slice L k K);generalize Za M w.heap.size (.int .i64 kd) (.int .i64 D) (.string st) (.slice G F C) (.slice p2 A E) (.slice L k K)=I at Q Gb;obtain⟨y0,y1,y2,y3,y4,y5⟩:=yz Gb;refine bodyPost_ret (v:=.tuple #[.agg #[.int .i64 kd,.int .i64 D,.string st,.slice G F C,.slice p2 A E,.slice L k K],.int .i64 0]) (by simp [results,results11,go_sem,y0,y1,y2,y3,y4,y5]) rfl ?_;exact (by
       have s:=Gy.o (ZN x) (qF x) Eh.o kd D st G F C p2 A E L K I (Jo.o I ((Jh.o.mono Wz).trans' Q));rw [Eg.o] at s;exact⟨s,((Gp.o.then Je.o).then Jh.o).trans Q (by intro i f;rw [XS] at f;subst f;exact .inr (XA))⟩)
attribute [local go_sem] Oper.semAt_some
theorem zck {T:Nat→Prop}{P O:List Value}{v:V n}{b:Option Addr}{c d:Nat}{l:List yg}(h:Env n S w P v a c l)(J:Env n T w O v b d l) : zG w 12 #[.agg (zaQ P a l.length c).toArray,.agg (zaQ O b l.length d).toArray] (.bool true):=by
 obtain⟨kd,x,st,F,E,s,p2,A,C,rfl⟩:=h.rep.conv;obtain⟨f,k,i,u,D,t,z,y,B,rfl⟩:=J.rep.conv;obtain⟨r,q⟩:=XE ((w.alloc (.cells #[.int .i64 kd,.int .i64 x,.string st,.slice F E s,.slice p2 A C,.slice a l.length c] 28)).alloc (.cells #[.int .i64 f,.int .i64 k,.string i,.slice u D t,.slice z y B,.slice b l.length d] 28));have I:Hid (zb [] w r):=qI (kA2 q.o);have N:Hid (kO r w.heap.size kd x st (.slice F E s) (.slice p2 A C) (.slice a l.length c)):=qI (by rw [q.o];exact ((zb.refl [] _).alloc _).heap (zd rfl) Wz);have Q:Hid (kO r (w.heap.size+1) f k i (.slice u D t) (.slice z y B) (.slice b l.length d)):=qI (by rw [q.o];exact zd Wz);have G:=qI (h.k0 I.o);have H:=qI (J.k0 I.o);have R:Hid (zG r 42 #[.agg #[.int .i64 kd,.int .i64 x,.string st,.slice F E s,.slice p2 A C],.agg #[.int .i64 f,.int .i64 k,.string i,.slice u D t,.slice z y B]] (.bool true)):=qI (by
  have p:=exact_any n v v G.o.rep H.o.rep G.o.small;rw [(eqV_iff n v v).2 rfl] at p;exact p)
 have K:Hid (xz r 25 #[.slice a l.length c,.slice b l.length d] (.bool true)):=qI (fun w2 L=>by
  have p:=sameRows_any (G.o.rows.k0 L) (H.o.rows.k0 L) G.o.few H.o.few;rw [eqR_self] at p;exact p)
 clear h J;show Calls _ _ #[.agg #[.int .i64 kd,.int .i64 x,.string st,.slice F E s,.slice p2 A C,.slice a l.length c],.agg #[.int .i64 f,.int .i64 k,.string i,.slice u D t,.slice z y B,.slice b l.length d]] _ _;generalize l.length=m at q N Q K ⊢;obtain⟨x0,x1,x2,x3,x4,X⟩:=yz N.o;obtain⟨z0,z1,z2,Z,z4,W⟩:=yz Q.o;go_enter func12,ntmps12;go_upto_region 1 with fail;refine yZ q.o ?_;go_wp2_with first
  | (go_at_call 42;refine R.o.mono ?_;rintro e w3 ⟨rfl,j⟩;have M:=qI j;have Y:=j.cell X Wz;have u5:=j.cell W Wz;clear j)
  | (go_at_call 25;refine (K.o _ M.o).mh ?_;rintro e w4 rfl U)
 go_ret;exact⟨rfl,I.o.then (M.o.then U.o)⟩
def zaR (b:List UInt8):V 11×List yg×Int:=
 match Y8 b with
 | .inl x=>((Qw:VS (V 10)),[],x)
 | .inr (v,l)=>(v,l,0)
theorem qs.env (h:qs b e w):∃ kd nm st p1 i1 d1 p2 i2 d2 a c,e = .returned (.tuple #[.agg #[.int .i64 kd,.int .i64 nm,.string st,.slice p1 i1 d1,.slice p2 i2 d2,.slice a (zaR b).2.1.length c],.int .i64 (zaR b).2.2])∧Env 11 (fun _=>True) w [.int .i64 kd,.int .i64 nm,.string st,.slice p1 i1 d1,.slice p2 i2 d2] (zaR b).1 a c (zaR b).2.1:=by
 unfold qs at h;unfold zaR;generalize Y8 b=q at h;rcases q with x | ⟨v,l⟩
 ·exact⟨0,0,⟨#[]⟩,none,0,0,none,0,0,none,0,h,K0 _ _,Ku,Wo,xt _ _,fun _ h=>(nomatch h),by show (0:Nat)≤1000000;decide⟩
 ·exact h
theorem Kz {c:Nat}(C:zm w (.slice a b.length c) b)(B:xS w)(q:kg w) : zG w 4 #[.slice a b.length c] (.bool true):=by
 have i:Hid (xz w 6 #[] (.bool true)):=qI (fun w2 h=>lives17_any (B.k0 h) (q.k0 h));have y:=qI (Ze C B);have u:Hid (∀ w2,zb [] w w2→Calls prog 11 #[.slice a b.length c] w2 fun e w'=>qs b e w'∧zb [] w2 w'):=qI (fun w2 h=>zaT (C.k0 h));clear C B q;have f:Hid (∀ e w',qs b e w'→∃ kd nm st p1 i1 d1 p2 i2 d2 a c,e = .returned (.tuple #[.agg #[.int .i64 kd,.int .i64 nm,.string st,.slice p1 i1 d1,.slice p2 i2 d2,.slice a (zaR b).2.1.length c],.int .i64 (zaR b).2.2])∧Env 11 (fun _=>True) w' [.int .i64 kd,.int .i64 nm,.string st,.slice p1 i1 d1,.slice p2 i2 d2] (zaR b).1 a c (zaR b).2.1):=qI (fun e w' h=>h.env);generalize qs b=ANS at y u f;generalize (zaR b).1=v at f;generalize (zaR b).2.2=x at f;obtain⟨l,HL⟩:=XE ((zaR b).2.1);rw [← HL.o] at f;obtain⟨m,E⟩:=XE l.length;rw [← E.o] at f;generalize b.length=n at y u ⊢;go_enter func4,ntmps4;by_cases h2:(20000:Int)<n;·go_wp2_with (go_at_call 6;refine (i.o _ Wd).mh ?_;rintro e w2 rfl Gu);go_ret;exact⟨rfl,Gu.o⟩
 ·have h3:(n:Int)≤20000:=by omega
  clear h2;go_upto_region 4 with (go_at_call 10;refine y.o.mono ?_;rintro e z ⟨k,p⟩;obtain⟨kd,nm,st,p1,i1,d1,p2,i2,d2,a1,c1,rfl,he⟩:=f.o _ _ k;have Q:=qI he;have Gr:=qI p;clear k he p);obtain⟨t,H⟩:=XE (z.alloc (.cells #[.int .i64 kd,.int .i64 nm,.string st,.slice p1 i1 d1,.slice p2 i2 d2,.slice a1 m c1] 28));have N:Hid (zb [] z t):=qI (kA1 H.o);have Ja:Hid (kO t z.heap.size kd nm st (.slice p1 i1 d1) (.slice p2 i2 d2) (.slice a1 m c1)):=qI (by rw [H.o];exact zd rfl);refine yZ H.o ?_;have Y:Hid (zb [] w t):=qI (Gr.o.then N.o);have j:=qI (u.o _ Y.o);go_upto_region 5 with (go_at_call 11;refine j.o.mono ?_;rintro e w5 ⟨k,r⟩;obtain⟨kd',nm',st',q1,j1,e1,q2,j2,e2,a2,c2,rfl,he⟩:=f.o _ _ k;have Mp:=qI he;have Yq:=qI r;clear k he r);obtain⟨s,A⟩:=XE (w5.alloc (.cells #[.int .i64 kd',.int .i64 nm',.string st',.slice q1 j1 e1,.slice q2 j2 e2,.slice a2 m c2] 28));have M:Hid (zb [] w5 s):=qI (kA1 A.o);have D:Hid (kO s w5.heap.size kd' nm' st' (.slice q1 j1 e1) (.slice q2 j2 e2) (.slice a2 m c2)):=qI (by rw [A.o];exact zd rfl);refine yZ A.o ?_;have G:Hid (zb [] t s):=qI (Yq.o.then M.o);have Z:Hid (zb [] w s):=qI (Y.o.then G.o);have I:=qI (G.o.heap Ja.o Wz);have CX:Hid (xz s 12 #[.agg #[.int .i64 kd,.int .i64 nm,.string st,.slice p1 i1 d1,.slice p2 i2 d2,.slice a1 m c1],.agg #[.int .i64 kd',.int .i64 nm',.string st',.slice q1 j1 e1,.slice q2 j2 e2,.slice a2 m c2]] (.bool true)):=qI (fun w2 R=>by
   have W:=zck (Q.o.k0 (N.o.then (G.o.then R))) (Mp.o.k0 (M.o.then R));rw [← E.o] at W;exact W)
  have F:=qI (i.o _ Z.o);generalize z.heap.size=gx at I ⊢;generalize w5.heap.size=gy at D ⊢;obtain⟨U,K,x2,X,L,x5⟩:=yz I.o;obtain⟨P,z1,z2,J,z4,z5⟩:=yz D.o;clear I D Q Mp y u j i f E HL;go_wp2_with first
   | (go_at_call 6;refine F.o.mono ?_;rintro e w7 ⟨rfl,d⟩;have O:=qI d;obtain⟨U,K,x2,X,L,x5⟩:=VO d U K x2 X L x5;obtain⟨P,z1,z2,J,z4,z5⟩:=VO d P z1 z2 J z4 z5;clear d)
   | (go_at_call 12;refine (CX.o _ O.o).mh ?_;rintro e w8 rfl Ei)
  go_ret;exact⟨rfl,Z.o.then (O.o.then Ei.o)⟩
end Go.Proofs.YtjccecajigmfkaaGreatDoor

/- Parts of one proof, merged: XHO XHP. -/
import Derived.Test.YtjccecajigmfkaaGreatDoorSgAK
import Derived.Test.YtjccecajigmfkaaGreatDoorSgAN
import Derived.Lib.SlBytesConst
set_option linter.all false
set_option maxHeartbeats 12800000
set_option maxRecDepth 100000
namespace Go.Proofs.YtjccecajigmfkaaGreatDoor
open Go.Proofs.Tryz
open Go.RowKit
attribute [local go_sem] Oper.semAt_some
variable {S:Nat→Prop}{w w':World}
theorem rep_v0 {g:Nat}(e:w.heap.size=g)(d:zb [] (w.alloc (.cells #[.string Z9,.int .i64 4,.int .i64 0,.string YM,.slice none 0 0,.slice none 0 0] 41)) w')(b:S g):Rep 11 S w' [.int .i64 6,.int .i64 0,.string ⟨#[]⟩,.slice none 0 0,.slice (some ⟨g,0,none⟩) 1 1] v0:=
 rep_map (n:=10) (m:=[(Z9,(q8 YM:VS (V 9)))]) (mcs:=[(Z9,[.int .i64 4,.int .i64 0,.string YM,.slice none 0 0,.slice none 0 0])]) (a:=some ⟨g,0,none⟩) (c:=1)
  (Slc.k0 (yv w [.string Z9,.int .i64 4,.int .i64 0,.string YM,.slice none 0 0,.slice none 0 0] 6 1 _ _ e rfl Wo) d) (zM.cons ⟨rfl,bS (n:=9) _ _ _⟩ (zM.nil _)) (fun k h=>by
   cases (show some g=some k from h)
   exact b)
theorem env_v0 {g:Nat}(d:w.heap.size=g)(b:zb [] (w.alloc (.cells #[.string Z9,.int .i64 4,.int .i64 0,.string YM,.slice none 0 0,.slice none 0 0] 41)) w')(a:S g):Env 11 S w' [.int .i64 6,.int .i64 0,.string ⟨#[]⟩,.slice none 0 0,.slice (some ⟨g,0,none⟩) 1 1] v0 none 0 []:=
 ⟨rep_v0 d b a,⟨by show (2:Nat)≤20000;decide,by show (9:Nat)≤400000;decide⟩,Wo,xX _ _,fun _ h=>(nomatch h),Wo⟩
theorem leaves1:ke 1=YX 0:=by rw [ZA];rfl
set_option maxHeartbeats 25600000 in
theorem lives17_any (ht:xH w)(aa:qK w) : zJ w 6 #[] (.bool true):=by
 obtain⟨t,Gi⟩:=XE ((w.alloc (.cells #[.string Z9,.int .i64 4,.int .i64 0,.string YM,.slice none 0 0,.slice none 0 0] 41)).alloc (.cells #[.int .i64 6,.int .i64 0,.string ⟨#[]⟩,.slice none 0 0,.slice (some ⟨w.heap.size,0,none⟩) 1 1,.slice none 0 0] 28));have Gt:Hid (zb [] w t):=qI (kA2 Gi.o);have Jz:Hid (Env 11 (fun g=>g<t.heap.size) t [.int .i64 6,.int .i64 0,.string ⟨#[]⟩,.slice none 0 0,.slice (some ⟨w.heap.size,0,none⟩) 1 1] v0 none 0 []):=qI (env_v0 rfl (kA1 Gi.o) (by rw [Gi.o];simp;omega));have Ma:Hid (jG t (w.heap.size+1) 6 0 ⟨#[]⟩ (.slice none 0 0) (.slice (some ⟨w.heap.size,0,none⟩) 1 1) (.slice none 0 0)):=qI (by rw [Gi.o];exact ze Wz);have Mb:Hid (t.heap.size=w.heap.size+2):=qI (by rw [Gi.o];simp);obtain⟨W2,Jh⟩:=XE (t.alloc (.cells #[.int .u8 115] 5 (1,2)));have Ji:Hid (zb [] t W2):=qI (kA1 Jh.o);have Mc:Hid (zp W2 (.slice (some ⟨t.heap.size,0,none⟩) 1 1) [115]):=qI (by
  rw [Jh.o];refine⟨rfl,.inr (.inr ⟨t.heap.size,0,1,rfl,XA,Wo,?_,Wz⟩)⟩;intro j u hu;rw [Nat.zero_add,cell_of_row _ t.heap.size j #[.int .u8 115] 5 (1,2) (heap_alloc_new t _)];rw [show ([115]:List UInt8).map bv=[.int .u8 115] from rfl] at hu;simpa using hu)
 have HT:=qI ht;have Md:=qI aa;have CN:=qI (zbH Mc.o (aa.k0 (Gt.o.then Ji.o)));clear ht aa;obtain⟨r,HR⟩:=XE rS;obtain⟨F,Jj⟩:=XE (k80 qB);have Jk:Hid (F.root.length=32∧Z1 F.bits):=qI (by rw [Jj.o];exact⟨qN _ _ _,by constructor <;> decide⟩);have kc:=fun (w:World) (C:Array Value) (n c:Nat)=>Lib.run_convert_bytes_const (P:=prog) w 32 5 C n c underlying32 underlying5;go_enter func6,ntmps6;go_upto_region 2 with fail;refine xg Gi.o ?_;go_upto_region 3 with (go_at_call 14;change Calls _ _ _ (t.alloc (.cells #[.int .u8 115] 5 (1,2))) _;rw [← Jh.o];refine CN.o.mono ?_;rintro e w2 ⟨⟨sg,sa,sc,la,lc,mb,rfl,ar,ax,a0,a3,am⟩,aw⟩;have Jq:Hid (Sgn1 w2 sg sa la sc lc mb):=qI ⟨ar,ax,by rw [← leaves1];exact a0,a3⟩;have Jc:Hid (t.heap.size≤mb):=qI (Nat.le_trans Ji.o.size am);have Gm:Hid (zb [] t w2):=qI (Ji.o.then aw);clear ar ax a0 a3 am aw);have My:Hid (mb<w2.heap.size):=qI Jq.o.used.lt;have W:=qI (Jz.o.k0 Gm.o);have Gp:=qI (Gm.o.heap Ma.o Wz);have Jd:Hid (zb [] w w2):=qI (Gt.o.then Gm.o);have ag:Hid (Calls prog 15 #[.agg #[.int .i64 6,.int .i64 0,.string ⟨#[]⟩,.slice none 0 0,.slice (some ⟨w.heap.size,0,none⟩) 1 1,.slice none 0 0],.pointer (some ⟨sg,0,none⟩)] w2 fun e w'=>(∃ kd v st B D s p2 A p a' c',e = .returned (.tuple #[.agg #[.int .i64 kd,.int .i64 v,.string st,.slice B D s,.slice p2 A p,.slice a' 1 c'],.int .i64 0])∧Env 11 (fun g=>w2.heap.size≤g) w' [.int .i64 kd,.int .i64 v,.string st,.slice B D s,.slice p2 A p] v0 a' c' [r])∧xZ w' sg (.slice sa 1 sc) (.slice la 1 lc) F (.map (some mb))∧zb [mb] w2 w'):=qI (by
  have k:=sgnSign1_any (HT.o.k0 Gt.o) (Md.o.k0 Gt.o) Gm.o W.o Y9 Wo Jq.o Jc.o (by have:=Jc.o;show ¬ (mb<t.heap.size);omega);rw [body_v0 Y9,show rowS j7=r from HR.o.symm,← Jj.o] at k;exact k)
 obtain⟨g0,g1,g2,g3,g4,g5⟩:=yS Gp.o;clear CN Mc Jh Gi Ji;go_upto_region 6 with (go_at_call 15;refine ag.o.mono ?_;rintro e w3 ⟨⟨kd,v,st,B,D,s,p2,A,p,K,c1,rfl,he⟩,aj,az⟩;have Me:=qI he;have Mf:=qI aj;have Gn:Hid (zb [mb] w2 w3):=qI az;clear he aj az g0 g1 g2 g3 g4 g5);obtain⟨z,Jl⟩:=XE (w3.alloc (.cells #[.int .i64 kd,.int .i64 v,.string st,.slice B D s,.slice p2 A p,.slice K 1 c1] 28));have Gj:Hid (zb [] w3 z):=qI (kA1 Jl.o);have Gq:Hid (jG z w3.heap.size kd v st (.slice B D s) (.slice p2 A p) (.slice K 1 c1)):=qI (by rw [Jl.o];exact ze rfl);refine xg Jl.o ?_;have Jr:Hid (Env 11 (fun g=>w2.heap.size≤g) z [.int .i64 kd,.int .i64 v,.string st,.slice B D s,.slice p2 A p] v0 K c1 [r]):=qI (Me.o.k0 Gj.o);have Mg:=qI (Mf.o.k0 Gj.o);have Js:Hid (Env 11 (fun g=>g<t.heap.size) z [.int .i64 6,.int .i64 0,.string ⟨#[]⟩,.slice none 0 0,.slice (some ⟨w.heap.size,0,none⟩) 1 1] v0 none 0 []):=qI ⟨(W.o.rep.kept Gn.o (by intro i hi;rw [List.mem_singleton] at hi;subst hi;have:=Jc.o;show ¬ (i<t.heap.size);omega)).k0 Gj.o,W.o.small,W.o.deep,xX _ _,W.o.texts,W.o.few⟩;have Jt:Hid (jG z (w.heap.size+1) 6 0 ⟨#[]⟩ (.slice none 0 0) (.slice (some ⟨w.heap.size,0,none⟩) 1 1) (.slice none 0 0)):=qI (Gj.o.heap (Gn.o.heap Gp.o (by have:=Jc.o;have:=Mb.o;simp;omega)) Wz);have Gb:Hid (zb [] w z):=qI ((Jd.o.trans Gn.o (by intro i hi;rw [List.mem_singleton] at hi;subst hi;have:=Jc.o;have:=Mb.o;exact .inr Ws)).then Gj.o);have Ja:Hid (∀ w2,zb [] z w2→xH w2∧qK w2):=qI (fun w2 h=>⟨HT.o.k0 (Gb.o.then h),Md.o.k0 (Gb.o.then h)⟩);have Gk:Hid (yf 11 v0 [r]=true∧zP 12 (qg v0 [r])∧Q5 11 v0 [r] r F=true):=qI (by rw [HR.o,Jj.o];exact⟨zay,small_one,holds_one⟩);obtain⟨EB,Gv⟩:=XE ((xR 12 (qg v0 [r])).1);have Ju:Hid ((xR 12 (qg v0 [r])).2=0∧zaP EB = .inr (v0,[r])):=qI (by
  rw [Gv.o,HR.o];exact⟨by rw [enc_one rS_id.2.1 QT.2.1 (by rw [rS_id.1,QT.1];decide)],decE_one⟩)
 have CE:Hid (∀ w2,zb [] z w2→Calls prog 16 #[.agg #[.int .i64 kd,.int .i64 v,.string st,.slice B D s,.slice p2 A p,.slice K 1 c1]] w2 fun e w'=>(∃ q d,e = .returned (.tuple #[.slice q EB.length d,.int .i64 0])∧zp w' (.slice q EB.length d) EB)∧zb [] w2 w'):=qI (fun w2 h=>by
  have k:=QH (Jr.o.k0 h) Gk.o.1 Wz Gk.o.2.1 (Ja.o w2 h).1;rw [Ju.o.1,← Gv.o] at k;exact k)
 have ay:Hid (∀ w2,zb [] z w2→Calls prog 16 #[.agg #[.int .i64 6,.int .i64 0,.string ⟨#[]⟩,.slice none 0 0,.slice (some ⟨w.heap.size,0,none⟩) 1 1,.slice none 0 0]] w2 fun e w'=>(∃ q d,e = .returned (.tuple #[.slice q 43 d,.int .i64 0])∧zp w' (.slice q 43 d) textN)∧zb [] w2 w'):=qI (fun w2 h=>by
  have k:=QH (Js.o.k0 h) Y9 Wo small_none (Ja.o w2 h).1;rw [enc_none] at k;exact k)
 have CD:Hid (∀ w2,zb [] z w2→∀ q d,zp w2 (.slice q EB.length d) EB→Calls prog 10 #[.slice q EB.length d] w2 fun e w'=>(∃ kd v st B D s p2 A p a c,e = .returned (.tuple #[.agg #[.int .i64 kd,.int .i64 v,.string st,.slice B D s,.slice p2 A p,.slice a 1 c],.int .i64 0])∧Env 11 (fun _=>True) w' [.int .i64 kd,.int .i64 v,.string st,.slice B D s,.slice p2 A p] v0 a c [r])∧zb [] w2 w'):=qI (fun w2 h q d hb=>by
  have k:=QE hb (Ja.o w2 h).1;unfold YC at k;rw [Ju.o.2] at k;exact k)
 have an:Hid (∀ w2,zb [] z w2→∀ q d,zp w2 (.slice q 2 d) [123,125]→Calls prog 10 #[.slice q 2 d] w2 fun e w'=>e = .returned (.tuple #[.agg #[.int .i64 0,.int .i64 0,.string ⟨#[]⟩,.slice none 0 0,.slice none 0 0,.slice none 0 0],.int .i64 130])∧zb [] w2 w'):=qI (fun w2 h q d hb=>by
  have k:=QE (b:=[123,125]) hb (Ja.o w2 h).1;unfold YC at k;rw [decE_braces] at k;exact k)
 obtain⟨b0,b1,b2,b3,b4,b5⟩:=yS Gq.o;clear Jl Gj Me Mf ag W Gp Gn Jz Ma Jd Jq Ju;go_upto_region 7 with (go_at_call 16;refine (CE.o _ Wd).mono ?_;rintro e R ⟨⟨q5,e5,rfl,ap⟩,ae⟩;have Mh:=qI ap;have y:Hid (zb [] z R):=qI ae;clear ap ae b0 b1 b2 b3 b4 b5);have ao:=qI (CD.o _ y.o q5 e5 Mh.o);go_upto_region 8 with (go_at_call 10;refine ao.o.mono ?_;rintro e w6 ⟨⟨M,N,L,q1,j1,k,q2,j2,h2,a2,c2,rfl,he⟩,au⟩;have Mi:=qI he;have Mt:Hid (zb [] z w6):=qI (y.o.then au);clear he au);obtain⟨G,Jm⟩:=XE (w6.alloc (.cells #[.int .i64 M,.int .i64 N,.string L,.slice q1 j1 k,.slice q2 j2 h2,.slice a2 1 c2] 28));have Je:Hid (zb [] w6 G):=qI (kA1 Jm.o);have Mj:Hid (jG G w6.heap.size M N L (.slice q1 j1 k) (.slice q2 j2 h2) (.slice a2 1 c2)):=qI (by rw [Jm.o];exact ze rfl);refine xg Jm.o ?_;have Mk:Hid (zb [] z G):=qI (Mt.o.then Je.o);obtain⟨W8,Jn⟩:=XE (G.alloc (.cells #[.int .u8 123,.int .u8 125] 5 (2,3)));have Gw:Hid (zb [] G W8):=qI (kA1 Jn.o);have Ml:Hid (zp W8 (.slice (some ⟨G.heap.size,0,none⟩) 2 2) [123,125]):=qI (by
  rw [Jn.o];refine⟨rfl,.inr (.inr ⟨G.heap.size,0,2,rfl,XA,Wo,?_,Wz⟩)⟩;intro j u hu;rw [Nat.zero_add,cell_of_row _ G.heap.size j #[.int .u8 123,.int .u8 125] 5 (2,3) (heap_alloc_new G _)];rw [show ([123,125]:List UInt8).map bv=[.int .u8 123,.int .u8 125] from rfl] at hu;simpa using hu)
 have al:=qI (an.o _ (Mk.o.then Gw.o) _ _ Ml.o);go_upto_region 9 with (go_at_call 10;change Calls _ _ _ (G.alloc (.cells #[.int .u8 123,.int .u8 125] 5 (2,3))) _;rw [← Jn.o];refine al.o.mono ?_;rintro e w9 ⟨rfl,H⟩;have Jf:Hid (zb [] G w9):=qI (Gw.o.then H);clear H);obtain⟨Y,Gx⟩:=XE (w9.alloc (.cells #[.int .i64 0,.int .i64 0,.string ⟨#[]⟩,.slice none 0 0,.slice none 0 0,.slice none 0 0] 28));have Gl:Hid (zb [] G Y):=qI (by rw [Gx.o];exact Jf.o.alloc _);refine xg Gx.o ?_;have Gy:Hid (zb [] z Y):=qI (Mk.o.then Gl.o);have Ge:=qI (Gy.o.heap Jt.o Wz);obtain⟨e0,e1,e2,e3,e4,e5⟩:=yS Ge.o;have Q:=qI (ay.o _ Gy.o);clear kc ao al Ml Jn Gw Gx Jf Jm CE;go_upto_region 10 with (go_at_call 16;refine Q.o.mono ?_;rintro e m ⟨⟨qz,dz,rfl,aq⟩,U⟩;have Mm:=qI aq;have Gf:Hid (zb [] Y m):=qI U;clear aq U e0 e1 e2 e3 e4 e5);have Gg:Hid (zb [] z m):=qI (Gy.o.then Gf.o);have Gc:=qI (Gg.o.heap Gq.o Wz);have Gz:=qI (Gg.o.heap Jt.o Wz);have Gd:=qI ((Gl.o.then Gf.o).heap Mj.o Wz);have Jo:=qI (Jr.o.k0 Gg.o);have Jp:=qI (Js.o.k0 Gg.o);have Mn:=qI (Mi.o.k0 (Je.o.then (Gl.o.then Gf.o)));have Mo:=qI (Mg.o.k0 Gg.o);have Gh:Hid (∀ w2,zb [] m w2→xH w2∧qK w2):=qI (fun w2 h=>Ja.o w2 (Gg.o.then h));have CP:Hid (yL m 18 #[.pointer (some ⟨sg,0,none⟩)] (.agg (yU F))):=qI (fun w2 h=>zaF (Mo.o.k0 h) Jk.o.1);have a8:Hid (yL m 17 #[.agg #[.int .i64 kd,.int .i64 v,.string st,.slice B D s,.slice p2 A p,.slice K 1 c1],.int .i64 0,.agg (yU F)] (.bool true)):=qI (fun w2 h=>by
  have k:=holds_any (Jo.o.k0 h) (Gh.o w2 h).1 (Gh.o w2 h).2 F Jk.o.2 Jk.o.1 0 Wz;rw [show Q5 11 v0 [r] ([r][0]) F=true from Gk.o.2.2] at k;exact k)
 have aA:Hid (yL m 17 #[.agg #[.int .i64 kd,.int .i64 v,.string st,.slice B D s,.slice p2 A p,.slice K 1 c1],.int .i64 1,.agg (yU F)] (.bool false)):=qI (fun w2 h=>by
  have k:=holdsPast_any (Jo.o.k0 h) (Gh.o w2 h).1 Gk.o.1 F 1 Wz Wo;exact k)
 have CS:Hid (yL m 7 #[.agg #[.int .i64 kd,.int .i64 v,.string st,.slice B D s,.slice p2 A p,.slice K 1 c1],.agg #[.int .i64 M,.int .i64 N,.string L,.slice q1 j1 k,.slice q2 j2 h2,.slice a2 1 c2]] (.bool true)):=qI (fun w2 h=>by
  have k:=YP (Jo.o.k0 h) (Mn.o.k0 h) Wo (Gh.o w2 h).1;rw [zaN,Gk.o.1] at k;exact k)
 have a7:Hid (yL m 19 #[.agg #[.int .i64 6,.int .i64 0,.string ⟨#[]⟩,.slice none 0 0,.slice (some ⟨w.heap.size,0,none⟩) 1 1,.slice none 0 0]] (.string YM)):=qI (fun w2 h=>by
  have k:=kind_any (n:=10) (Jp.o.k0 h) kind_v0 rfl;exact k)
 have CB:Hid (∀ w2,zb [] m w2→Calls prog 20 #[.agg #[.int .i64 6,.int .i64 0,.string ⟨#[]⟩,.slice none 0 0,.slice (some ⟨w.heap.size,0,none⟩) 1 1,.slice none 0 0]] w2 fun e w'=>(∃ q d,e = .returned (.slice q j7.length d)∧zp w' (.slice q j7.length d) j7)∧zb [] w2 w'):=qI (fun w2 h=>by
  have k:=zaU (Jp.o.k0 h) (Gh.o w2 h).1;rw [body_v0 Y9] at k;exact k)
 have a5:Hid (yL m 21 #[.agg #[.int .i64 6,.int .i64 0,.string ⟨#[]⟩,.slice none 0 0,.slice (some ⟨w.heap.size,0,none⟩) 1 1,.slice none 0 0]] (.bool true)):=qI (fun w2 h=>by
  have k:=qF (Jp.o.k0 h) (Gh.o w2 h).1;rw [Y9] at k;exact k)
 have Mu:Hid (∀ w2,zb [] m w2→(convert 32 9 (.slice qz 43 dz)).run prog w2 = .ok (.string ⟨#[123,34,115,105,103,110,97,116,117,114,101,115,34,58,91,93,44,34,115,105,103,110,101,100,34,58,123,34,95,116,121,112,101,34,58,34,114,111,111,116,34,125,125]⟩) w2):=qI (fun w2 h=>by
  have k:=zp.toStr (l:=textN) (Mm.o.k0 h);exact k)
 have Mv:Hid (∀ (w2:World) q d,zp w2 (.slice q j7.length d) j7→(convert 32 9 (.slice q j7.length d)).run prog w2 = .ok (.string ⟨#[123,34,95,116,121,112,101,34,58,34,114,111,111,116,34,125]⟩) w2):=qI (fun w2 q d h=>by
  have k:=zp.toStr (l:=j7) h;exact k)
 generalize aC:w3.heap.size=gx at Gc ⊢;generalize a9:w6.heap.size=gy at Gd ⊢;clear aC a9;obtain⟨b0,b1,b2,b3,b4,b5⟩:=yS Gc.o;obtain⟨f0,f1,f2,f3,f4,f5⟩:=yS Gd.o;obtain⟨e0,e1,e2,e3,e4,e5⟩:=yS Gz.o;clear Gc Gd Gz Jo Jp Mn Mo Gh Ja Mm Jr Js Mg Gq Jt Ge Mj Mi ay CD an Q Mh Gk Jk Jj HR Gv;go_wp2
 refine yz (n:=120) 62 [fI (.int .i64 0),
  fT,
  fT,
  fI (.pointer (some ⟨gx,5,none⟩)),
  fI (.slice K 1 c1),
  fI (.int .i64 1),
  fT,
  fT,
  fT,
  fI (.agg #[.int .i64 kd,.int .i64 v,.string st,.slice B D s,.slice p2 A p,.slice K 1 c1]),
  fI (.pointer (some ⟨sg,0,none⟩)),
  fI (.agg (yU F)),
  fT,
  fT,
  fT,
  fI (.agg #[.int .i64 kd,.int .i64 v,.string st,.slice B D s,.slice p2 A p,.slice K 1 c1]),
  fI (.pointer (some ⟨sg,0,none⟩)),
  fI (.agg (yU F)),
  fF,
  fT,
  fT,
  fT,
  fI (.int .i64 0),
  fT,
  fT,
  fT,
  fI (.int .i64 0),
  fT,
  fT,
  fT,
  fI (.agg #[.int .i64 kd,.int .i64 v,.string st,.slice B D s,.slice p2 A p,.slice K 1 c1]),
  fI (.agg #[.int .i64 M,.int .i64 N,.string L,.slice q1 j1 k,.slice q2 j2 h2,.slice a2 1 c2]),
  fT,
  fT,
  fT,
  fI (.int .i64 130),
  fT,
  fT,
  fT,
  fI (.int .i64 0),
  fT,
  fT,
  fT,
  fI (.slice qz 43 dz),
  fI (.string ⟨#[123,34,115,105,103,110,97,116,117,114,101,115,34,58,91,93,44,34,115,105,103,110,101,100,34,58,123,34,95,116,121,112,101,34,58,34,114,111,111,116,34,125,125]⟩),
  fT,
  fT,
  fT,
  fI (.agg #[.int .i64 6,.int .i64 0,.string ⟨#[]⟩,.slice none 0 0,.slice (some ⟨w.heap.size,0,none⟩) 1 1,.slice none 0 0]),
  fI (.string YM),
  fT,
  fT,
  fT,
  fI (.agg #[.int .i64 6,.int .i64 0,.string ⟨#[]⟩,.slice none 0 0,.slice (some ⟨w.heap.size,0,none⟩) 1 1,.slice none 0 0]),
  JM j7,
  fI (.string ⟨#[123,34,95,116,121,112,101,34,58,34,114,111,111,116,34,125]⟩),
  fT,
  fT,
  fT,
  fI (.agg #[.int .i64 6,.int .i64 0,.string ⟨#[]⟩,.slice none 0 0,.slice (some ⟨w.heap.size,0,none⟩) 1 1,.slice none 0 0]),
  fT,
  fT] Wr rfl Wr (fun x=>qm) ?_ ?_
 ·refine⟨?_,?_,?_,?_,?_,?_,?_,?_,?_,?_,?_,?_,?_,?_,?_,?_,?_,?_,?_,?_,?_,?_,?_,?_,?_,?_,?_,?_,?_,?_,?_,?_,?_,?_,?_,?_,?_,?_,?_,?_,?_,?_,?_,?_,?_,?_,?_,?_,?_,?_,?_,?_,?_,?_,?_,?_,?_,?_,?_,?_,?_,?_,trivial⟩ <;> intro x w2 f b hd;·exact zi
  ·have d0:x 0=_:=hd 0 Wr;exact zi
  ·have s:x 1=_:=hd 1 Wr;exact zi
  ·have p:x 2=_:=hd 2 Wr;exact zi
  ·have p:x 2=_:=hd 2 Wr;have d3:x 3=_:=hd 3 Wr;have X:=f.cell b5 Wz;exact zi
  ·have p:x 2=_:=hd 2 Wr;have d4:x 4=_:=hd 4 Wr;exact zi
  ·have p:x 2=_:=hd 2 Wr;have d5:x 5=_:=hd 5 Wr;exact zi
  ·have p:x 2=_:=hd 2 Wr;have d6:x 6=_:=hd 6 Wr;exact zi
  ·have d7:x 7=_:=hd 7 Wr;exact zi
  ·have d8:x 8=_:=hd 8 Wr;have y0:=f.cell b0 Wz;have y1:=f.cell b1 Wz;have y2:=f.cell b2 Wz;have y3:=f.cell b3 Wz;have y4:=f.cell b4 Wz;have X:=f.cell b5 Wz;exact zi
  ·have d8:x 8=_:=hd 8 Wr;exact zi
  ·have d8:x 8=_:=hd 8 Wr;have aT:x 10=_:=hd 10 Wr;have E:=CP.o w2 f;go_wp2_with (go_at_call 18;refine E.mh ?_;rintro e R rfl y);exact⟨rfl,y.o⟩
  ·have d8:x 8=_:=hd 8 Wr;have d9:x 9=_:=hd 9 Wr;have aP:x 11=_:=hd 11 Wr;have E:=a8.o w2 f;go_wp2_with (go_at_call 17;refine E.mh ?_;rintro e R rfl y);exact⟨rfl,y.o⟩
  ·have d8:x 8=_:=hd 8 Wr;have aY:x 12=_:=hd 12 Wr;exact zi
  ·have cc:x 13=_:=hd 13 Wr;exact zi
  ·have J:x 14=_:=hd 14 Wr;have y0:=f.cell b0 Wz;have y1:=f.cell b1 Wz;have y2:=f.cell b2 Wz;have y3:=f.cell b3 Wz;have y4:=f.cell b4 Wz;have X:=f.cell b5 Wz;exact zi
  ·have J:x 14=_:=hd 14 Wr;exact zi
  ·have J:x 14=_:=hd 14 Wr;have aK:x 16=_:=hd 16 Wr;have E:=CP.o w2 f;go_wp2_with (go_at_call 18;refine E.mh ?_;rintro e R rfl y);exact⟨rfl,y.o⟩
  ·have J:x 14=_:=hd 14 Wr;have aW:x 15=_:=hd 15 Wr;have ce:x 17=_:=hd 17 Wr;have E:=aA.o w2 f;go_wp2_with (go_at_call 17;refine E.mh ?_;rintro e R rfl y);exact⟨rfl,y.o⟩
  ·have J:x 14=_:=hd 14 Wr;have aL:x 18=_:=hd 18 Wr;exact zi
  ·have J:x 14=_:=hd 14 Wr;have aV:x 19=_:=hd 19 Wr;exact zi
  ·have bk:x 20=_:=hd 20 Wr;exact zi
  ·have ak:x 21=_:=hd 21 Wr;exact zi
  ·have ak:x 21=_:=hd 21 Wr;have aD:x 22=_:=hd 22 Wr;exact zi
  ·have ak:x 21=_:=hd 21 Wr;have aN:x 23=_:=hd 23 Wr;exact zi
  ·have bm:x 24=_:=hd 24 Wr;exact zi
  ·have a4:x 25=_:=hd 25 Wr;exact zi
  ·have a4:x 25=_:=hd 25 Wr;have aG:x 26=_:=hd 26 Wr;exact zi
  ·have a4:x 25=_:=hd 25 Wr;have bz:x 27=_:=hd 27 Wr;exact zi
  ·have aF:x 28=_:=hd 28 Wr;exact zi
  ·have Z:x 29=_:=hd 29 Wr;have y0:=f.cell b0 Wz;have y1:=f.cell b1 Wz;have y2:=f.cell b2 Wz;have y3:=f.cell b3 Wz;have y4:=f.cell b4 Wz;have X:=f.cell b5 Wz;exact zi
  ·have Z:x 29=_:=hd 29 Wr;have y0:=f.cell f0 Wz;have y1:=f.cell f1 Wz;have y2:=f.cell f2 Wz;have y3:=f.cell f3 Wz;have y4:=f.cell f4 Wz;have X:=f.cell f5 Wz;exact zi
  ·have Z:x 29=_:=hd 29 Wr;have aE:x 30=_:=hd 30 Wr;have aS:x 31=_:=hd 31 Wr;have E:=CS.o w2 f;go_wp2_with (go_at_call 7;refine E.mh ?_;rintro e R rfl y);exact⟨rfl,y.o⟩
  ·have Z:x 29=_:=hd 29 Wr;have aR:x 32=_:=hd 32 Wr;exact zi
  ·have cj:x 33=_:=hd 33 Wr;exact zi
  ·have ai:x 34=_:=hd 34 Wr;exact zi
  ·have ai:x 34=_:=hd 34 Wr;have bx:x 35=_:=hd 35 Wr;exact zi
  ·have ai:x 34=_:=hd 34 Wr;have aQ:x 36=_:=hd 36 Wr;exact zi
  ·have aZ:x 37=_:=hd 37 Wr;exact zi
  ·have ah:x 38=_:=hd 38 Wr;exact zi
  ·have ah:x 38=_:=hd 38 Wr;have ch:x 39=_:=hd 39 Wr;exact zi
  ·have ah:x 38=_:=hd 38 Wr;have aI:x 40=_:=hd 40 Wr;exact zi
  ·have aU:x 41=_:=hd 41 Wr;exact zi
  ·have ab:x 42=_:=hd 42 Wr;exact zi
  ·have ab:x 42=_:=hd 42 Wr;have bs:x 43=_:=hd 43 Wr;have a6:=Mu.o w2 f;exact zi
  ·have ab:x 42=_:=hd 42 Wr;have aO:x 44=_:=hd 44 Wr;exact zi
  ·have ab:x 42=_:=hd 42 Wr;have ca:x 45=_:=hd 45 Wr;exact zi
  ·have bd:x 46=_:=hd 46 Wr;exact zi
  ·have ad:x 47=_:=hd 47 Wr;have y0:=f.cell e0 Wz;have y1:=f.cell e1 Wz;have y2:=f.cell e2 Wz;have y3:=f.cell e3 Wz;have y4:=f.cell e4 Wz;have X:=f.cell e5 Wz;exact zi
  ·have ad:x 47=_:=hd 47 Wr;have aH:x 48=_:=hd 48 Wr;have E:=a7.o w2 f;go_wp2_with (go_at_call 19;refine E.mh ?_;rintro e R rfl y);exact⟨rfl,y.o⟩
  ·have ad:x 47=_:=hd 47 Wr;have aJ:x 49=_:=hd 49 Wr;exact zi
  ·have ad:x 47=_:=hd 47 Wr;have b6:x 50=_:=hd 50 Wr;exact zi
  ·have b7:x 51=_:=hd 51 Wr;exact zi
  ·have O:x 52=_:=hd 52 Wr;have y0:=f.cell e0 Wz;have y1:=f.cell e1 Wz;have y2:=f.cell e2 Wz;have y3:=f.cell e3 Wz;have y4:=f.cell e4 Wz;have X:=f.cell e5 Wz;exact zi
  ·have O:x 52=_:=hd 52 Wr;have cb:x 53=_:=hd 53 Wr;have E:=CB.o w2 f;go_wp2_with (go_at_call 20;refine E.mono ?_;rintro e w9 ⟨⟨q9,d9,rfl,I⟩,H⟩;have Mw:=qI I;have Mx:=qI H;clear I H);exact⟨⟨q9,d9,rfl,Mw.o⟩,Mx.o⟩
  ·have O:x 52=_:=hd 52 Wr;obtain⟨q9,e9,cd,I⟩:=hd 54 Wr;have a6:=Mv.o w2 q9 e9 I;clear I;exact zi
  ·have O:x 52=_:=hd 52 Wr;have ba:x 55=_:=hd 55 Wr;exact zi
  ·have O:x 52=_:=hd 52 Wr;have ci:x 56=_:=hd 56 Wr;exact zi
  ·have aX:x 57=_:=hd 57 Wr;exact zi
  ·have af:x 58=_:=hd 58 Wr;have y0:=f.cell e0 Wz;have y1:=f.cell e1 Wz;have y2:=f.cell e2 Wz;have y3:=f.cell e3 Wz;have y4:=f.cell e4 Wz;have X:=f.cell e5 Wz;exact zi
  ·have af:x 58=_:=hd 58 Wr;have bb:x 59=_:=hd 59 Wr;have E:=a5.o w2 f;go_wp2_with (go_at_call 21;refine E.mh ?_;rintro e R rfl y);exact⟨rfl,y.o⟩
  ·have af:x 58=_:=hd 58 Wr;have cg:x 60=_:=hd 60 Wr;exact zi
 ·intro x aM f bn hd av;have aB:x 61=_:=hd 61 Wo;have Jv:=qI f;clear hd av f;change wpList _ _ _ [_] _ _;simp only [Nat.zero_add,Nat.reduceAdd,aB];go_wp2;go_ret;exact⟨rfl,Gb.o.then (Gg.o.then Jv.o)⟩
attribute [local go_sem] Oper.semAt_some
theorem zaq {na nb:Nat}{va:V na}{vb:V nb}{T:Nat→Prop}{ca cb:List Value}(hv:bP na BB S w ca va){a:Option Addr}{c:Nat}{l:List yh}(hr:xT w (.slice a l.length c) l)(hz:∀ r,r∈l→r.small)(hl:l.length≤140737488355328)(P:bP nb BB T w cb vb){b:Option Addr}{d:Nat}{l':List yh}(R:xT w (.slice b l'.length d) l')(X:∀ r,r∈l'→r.small)(ad:l'.length≤140737488355328)(ht:xH w)(ab:qK w) : zJ w 3 #[.agg (YJ ca a l.length c).toArray,.agg (YJ cb b l'.length d).toArray] (.bool true):=by
 obtain⟨kd,v,st,A,B,i,p2,z,t,rfl⟩:=hv.1.conv;obtain⟨p,s,j,D,H,F,J,I,E,rfl⟩:=P.1.conv;obtain⟨W1,Gi⟩:=XE ((w.alloc (.cells #[.int .i64 kd,.int .i64 v,.string st,.slice A B i,.slice p2 z t,.slice a l.length c] 28)).alloc (.cells #[.int .i64 p,.int .i64 s,.string j,.slice D H F,.slice J I E,.slice b l'.length d] 28));have Gt:Hid (zb [] w W1):=qI (kA2 Gi.o);have Gr:Hid (jG W1 w.heap.size kd v st (.slice A B i) (.slice p2 z t) (.slice a l.length c)):=qI (by rw [Gi.o];exact ((zb.refl [] _).alloc _).heap (ze rfl) Wz);have Gs:Hid (jG W1 (w.heap.size+1) p s j (.slice D H F) (.slice J I E) (.slice b l'.length d)):=qI (by rw [Gi.o];exact ze Wz);have Mp:Hid (Qe (∃ v':V 21,Rep 21 S w [.int .i64 kd,.int .i64 v,.string st,.slice A B i,.slice p2 z t] v'∧zP 21 v') w (.agg #[.int .i64 kd,.int .i64 v,.string st,.slice A B i,.slice p2 z t])):=qI (incomingR hv);have Mq:Hid (Qe (∃ v':V 21,Rep 21 T w [.int .i64 p,.int .i64 s,.string j,.slice D H F,.slice J I E] v'∧zP 21 v') w (.agg #[.int .i64 p,.int .i64 s,.string j,.slice D H F,.slice J I E])):=qI (incomingR P);have O:Hid (∀ w2,zb [] w w2→Calls prog 5 #[.agg #[.int .i64 kd,.int .i64 v,.string st,.slice A B i,.slice p2 z t,.slice a l.length c]] w2 fun e w'=>(∃ b,e = .returned (.bool b)∧(b=false→l.length≤50∧∃ v':V 21,Rep 21 S w [.int .i64 kd,.int .i64 v,.string st,.slice A B i,.slice p2 z t] v'∧zP 21 v'))∧zb [] w2 w'):=qI (fun w2 h=>Y7 (Mp.o.k0 h) (hr.k0 h) hz hl);have Q:Hid (∀ w2,zb [] w w2→Calls prog 5 #[.agg #[.int .i64 p,.int .i64 s,.string j,.slice D H F,.slice J I E,.slice b l'.length d]] w2 fun e w'=>(∃ b,e = .returned (.bool b)∧(b=false→l'.length≤50∧∃ v':V 21,Rep 21 T w [.int .i64 p,.int .i64 s,.string j,.slice D H F,.slice J I E] v'∧zP 21 v'))∧zb [] w2 w'):=qI (fun w2 h=>Y7 (Mq.o.k0 h) (R.k0 h) X ad);have aj:Hid (yL w 6 #[] (.bool true)):=qI (fun w2 h=>lives17_any (ht.k0 h) (ab.k0 h));have HT:=qI ht;have Jw:=qI (And.intro hr hz);have Jx:=qI (And.intro R X);show Calls _ _ #[.agg #[.int .i64 kd,.int .i64 v,.string st,.slice A B i,.slice p2 z t,.slice a l.length c],.agg #[.int .i64 p,.int .i64 s,.string j,.slice D H F,.slice J I E,.slice b l'.length d]] _ _;clear hv hr hz hl P R X ad ht ab Mp Mq;obtain⟨m,M⟩:=XE l.length;obtain⟨k,Y⟩:=XE l'.length;rw [← M.o,← Y.o];rw [← M.o] at Gr O;rw [← Y.o] at Gs Q;rw [← M.o,← Y.o] at Gi;obtain⟨c0,c1,c2,c3,c4,c5⟩:=yS Gr.o;obtain⟨f0,f1,f2,f3,f4,f5⟩:=yS Gs.o;go_enter func3,ntmps3;go_upto_region 1 with fail;refine xg Gi.o ?_;go_wp2_with first
  | (go_at_call 6;refine (aj.o _ Gm.o).mh ?_;rintro e w5 rfl K)
  | (have hq:=Gm.o;go_at_call 5;refine (Q.o _ hq).mono ?_;rintro e w4 ⟨⟨bb,rfl,hb⟩,U⟩;have Mr:=qI hb;have Gm:Hid (zb [] w w4):=qI (hq.then U);have Jg:Hid (zb [] W1 w4):=qI (Jy.o.then U);clear hb U hq;cases bb)
  | (go_at_call 5;refine (O.o _ Gt.o).mono ?_;rintro e w3 ⟨⟨ba,rfl,hb⟩,u⟩;have Ms:=qI hb;have Gm:Hid (zb [] w w3):=qI (Gt.o.then u);have Jy:Hid (zb [] W1 w3):=qI u;have c0:=u.cell f0 Wz;have c1:=u.cell f1 Wz;have c2:=u.cell f2 Wz;have c3:=u.cell f3 Wz;have c4:=u.cell f4 Wz;have c5:=u.cell f5 Wz;clear hb u;cases ba)
 all_goals first
  | (go_ret;exact⟨rfl,Gm.o.then K.o⟩)
  | skip
 obtain⟨ao,W,ag,af⟩:=Ms.o (by first | rfl | trivial);obtain⟨an,ae,ai,aa⟩:=Mr.o (by first | rfl | trivial);have G:=Gm;have Jb:Hid (∀ w2,zb [] w w2→Env 21 S w2 [.int .i64 kd,.int .i64 v,.string st,.slice A B i,.slice p2 z t] W a c l):=qI (fun w2 h=>⟨ag.k0 h,af,Wo,Jw.o.1.k0 h,Jw.o.2,by have:=M.o;omega⟩);have Gv:Hid (∀ w2,zb [] w w2→Env 21 T w2 [.int .i64 p,.int .i64 s,.string j,.slice D H F,.slice J I E] ae b d l'):=qI (fun w2 h=>⟨ai.k0 h,aa,Wo,Jx.o.1.k0 h,Jx.o.2,by have:=Y.o;omega⟩);obtain⟨q,HQ⟩:=XE (zaB 21 W ae l l');obtain⟨y,HY⟩:=XE (yf 21 W l);have CS:Hid (yL w4 7 #[.agg #[.int .i64 kd,.int .i64 v,.string st,.slice A B i,.slice p2 z t,.slice a m c],.agg #[.int .i64 p,.int .i64 s,.string j,.slice D H F,.slice J I E,.slice b k d]] (.bool q)):=qI (fun w2 h=>by
  have L:=YP (Jb.o w2 (G.o.then h)) (Gv.o w2 (G.o.then h)) Wo (HT.o.k0 (G.o.then h));rw [← M.o,← Y.o,← HQ.o] at L;exact L)
 have CR:Hid (yL w4 8 #[.agg #[.int .i64 kd,.int .i64 v,.string st,.slice A B i,.slice p2 z t,.slice a m c],.agg #[.int .i64 p,.int .i64 s,.string j,.slice D H F,.slice J I E,.slice b k d]] (.bool q)):=qI (fun w2 h=>by
  have L:=refSame17_any (Jb.o w2 (G.o.then h)) (Gv.o w2 (G.o.then h)) Wo (HT.o.k0 (G.o.then h));rw [← M.o,← Y.o,← HQ.o] at L;exact L)
 have ak:Hid (yL w4 7 #[.agg #[.int .i64 kd,.int .i64 v,.string st,.slice A B i,.slice p2 z t,.slice a m c],.agg #[.int .i64 kd,.int .i64 v,.string st,.slice A B i,.slice p2 z t,.slice a m c]] (.bool y)):=qI (fun w2 h=>by
  have L:=YP (Jb.o w2 (G.o.then h)) (Jb.o w2 (G.o.then h)) Wo (HT.o.k0 (G.o.then h));rw [zaN,← M.o,← HY.o] at L;exact L)
 have al:Hid (yL w4 9 #[.agg #[.int .i64 kd,.int .i64 v,.string st,.slice A B i,.slice p2 z t,.slice a m c]] (.bool y)):=qI (fun w2 h=>by
  have L:=ZB (Jb.o w2 (G.o.then h));rw [← M.o,← HY.o] at L;exact L)
 have Gc:=qI (Jg.o.heap Gr.o Wz);have Gd:=qI (Jg.o.heap Gs.o Wz);obtain⟨x0,x1,x2,x3,x4,x5⟩:=yS Gc.o;obtain⟨z0,z1,z2,z3,z4,z5⟩:=yS Gd.o;clear Jb Gv HQ HY ag af ai aa Gc Gd Jw Jx M Y Ms Mr O Q
 refine yz (n:=30) 18 [fT,
  fT,
  fI (.agg #[.int .i64 kd,.int .i64 v,.string st,.slice A B i,.slice p2 z t,.slice a m c]),
  fI (.agg #[.int .i64 p,.int .i64 s,.string j,.slice D H F,.slice J I E,.slice b k d]),
  fI (.bool q),
  fI (.agg #[.int .i64 kd,.int .i64 v,.string st,.slice A B i,.slice p2 z t,.slice a m c]),
  fI (.agg #[.int .i64 p,.int .i64 s,.string j,.slice D H F,.slice J I E,.slice b k d]),
  fI (.bool q),
  fT,
  fT,
  fT,
  fI (.agg #[.int .i64 kd,.int .i64 v,.string st,.slice A B i,.slice p2 z t,.slice a m c]),
  fI (.agg #[.int .i64 kd,.int .i64 v,.string st,.slice A B i,.slice p2 z t,.slice a m c]),
  fI (.bool y),
  fI (.agg #[.int .i64 kd,.int .i64 v,.string st,.slice A B i,.slice p2 z t,.slice a m c]),
  fI (.bool y),
  fT,
  fT] Wr rfl Wr (fun x=>qm) ?_ ?_
 ·refine⟨?_,?_,?_,?_,?_,?_,?_,?_,?_,?_,?_,?_,?_,?_,?_,?_,?_,?_,trivial⟩ <;> intro x w2 f b hd;·have N:=aj.o w2 (G.o.then f);go_wp2_with (go_at_call 6;refine N.mh ?_;rintro e w5 rfl K);exact⟨rfl,K.o⟩
  ·have d0:x 0=_:=hd 0 Wr;exact zi
  ·have i:x 1=_:=hd 1 Wr;have y0:=f.cell x0 Wz;have y1:=f.cell x1 Wz;have y2:=f.cell x2 Wz;have Z:=f.cell x3 Wz;have y4:=f.cell x4 Wz;have y5:=f.cell x5 Wz;exact zi
  ·have i:x 1=_:=hd 1 Wr;have y0:=f.cell z0 Wz;have y1:=f.cell z1 Wz;have y2:=f.cell z2 Wz;have Z:=f.cell z3 Wz;have y4:=f.cell z4 Wz;have y5:=f.cell z5 Wz;exact zi
  ·have i:x 1=_:=hd 1 Wr;have t:x 2=_:=hd 2 Wr;have d3:x 3=_:=hd 3 Wr;have N:=CS.o w2 f;go_wp2_with (go_at_call 7;refine N.mh ?_;rintro e w5 rfl K);exact⟨rfl,K.o⟩
  ·have i:x 1=_:=hd 1 Wr;have y0:=f.cell x0 Wz;have y1:=f.cell x1 Wz;have y2:=f.cell x2 Wz;have Z:=f.cell x3 Wz;have y4:=f.cell x4 Wz;have y5:=f.cell x5 Wz;exact zi
  ·have i:x 1=_:=hd 1 Wr;have y0:=f.cell z0 Wz;have y1:=f.cell z1 Wz;have y2:=f.cell z2 Wz;have Z:=f.cell z3 Wz;have y4:=f.cell z4 Wz;have y5:=f.cell z5 Wz;exact zi
  ·have i:x 1=_:=hd 1 Wr;have d5:x 5=_:=hd 5 Wr;have d6:x 6=_:=hd 6 Wr;have N:=CR.o w2 f;go_wp2_with (go_at_call 8;refine N.mh ?_;rintro e w5 rfl K);exact⟨rfl,K.o⟩
  ·have i:x 1=_:=hd 1 Wr;have d4:x 4=_:=hd 4 Wr;have d7:x 7=_:=hd 7 Wr;cases q <;> (go_wp2;exact⟨rfl,Wd⟩)
  ·have i:x 1=_:=hd 1 Wr;have d8:x 8=_:=hd 8 Wr;exact zi
  ·have d9:x 9=_:=hd 9 Wr;exact zi
  ·have C:x 10=_:=hd 10 Wr;have y0:=f.cell x0 Wz;have y1:=f.cell x1 Wz;have y2:=f.cell x2 Wz;have Z:=f.cell x3 Wz;have y4:=f.cell x4 Wz;have y5:=f.cell x5 Wz;exact zi
  ·have C:x 10=_:=hd 10 Wr;have y0:=f.cell x0 Wz;have y1:=f.cell x1 Wz;have y2:=f.cell x2 Wz;have Z:=f.cell x3 Wz;have y4:=f.cell x4 Wz;have y5:=f.cell x5 Wz;exact zi
  ·have C:x 10=_:=hd 10 Wr;have ay:x 11=_:=hd 11 Wr;have aq:x 12=_:=hd 12 Wr;have N:=ak.o w2 f;go_wp2_with (go_at_call 7;refine N.mh ?_;rintro e w5 rfl K);exact⟨rfl,K.o⟩
  ·have C:x 10=_:=hd 10 Wr;have y0:=f.cell x0 Wz;have y1:=f.cell x1 Wz;have y2:=f.cell x2 Wz;have Z:=f.cell x3 Wz;have y4:=f.cell x4 Wz;have y5:=f.cell x5 Wz;exact zi
  ·have C:x 10=_:=hd 10 Wr;have aw:x 14=_:=hd 14 Wr;have N:=al.o w2 f;go_wp2_with (go_at_call 9;refine N.mh ?_;rintro e w5 rfl K);exact⟨rfl,K.o⟩
  ·have C:x 10=_:=hd 10 Wr;have ax:x 13=_:=hd 13 Wr;have ap:x 15=_:=hd 15 Wr;cases y <;> (go_wp2;exact⟨rfl,Wd⟩)
  ·have C:x 10=_:=hd 10 Wr;have au:x 16=_:=hd 16 Wr;exact zi
 ·intro x av f ar hd ah;have am:x 17=_:=hd 17 Wo;have Jv:=qI f;clear hd ah f;change wpList _ _ _ [_] _ _;simp only [Nat.zero_add,Nat.reduceAdd,am];go_wp2;go_ret;exact⟨rfl,G.o.then Jv.o⟩
end Go.Proofs.YtjccecajigmfkaaGreatDoor

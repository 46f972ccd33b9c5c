/- Parts of one proof, merged: XHF XHG. -/
import Derived.Test.YtjccecajigmfkaaGreatDoorSgAH
import Derived.Test.YtjccecajigmfkaaGreatDoorSgAF
set_option linter.all false
set_option maxHeartbeats 12800000
set_option maxRecDepth 100000
namespace Go.Proofs.YtjccecajigmfkaaGreatDoor
open Go.Proofs.Tryz
open Go.RowKit
attribute [local go_sem] Oper.semAt_some
variable {l:List yh}{most:Int}{n:Nat}{r:yh}{s:ByteArray}{v:VS (V n)}{x:V n}{α:Type}
theorem JA (m:List UInt8):(xF m).one.rev.length=8∧(xF m).one.oth.length=8∧(xF m).way.length=0∧yT (xF m).one.rev∧yT (xF m).one.oth∧yT (xF m).way:=
 ⟨by simp [xF,vz],by simp [xF,vz],rfl,(signL_32 _ _ _ _).1,(signL_32 _ _ _ _).2,yT.nil⟩
theorem v8 (m:List UInt8):(xQ (xF m)).length=516:=by
 obtain⟨b,h2,h3,d,a,h6⟩:=JA m;unfold xQ;rw [List.length_append,List.length_append,xB,K9 d a Ws,b,h6.flat,h3]
def rowS (m:List UInt8):yh:=⟨qb (k80 qB),jy (xQ (xF m))⟩
theorem sgnSign1_any {W0:World}(ag:xH W0)(O:qK W0){S:Nat→Prop}{w:World}(aj:zb [] W0 w){cs:List Value}{v:V n}{a:Option Addr}{c:Nat}(h:Env n S w cs v a c l)(hm:yf n v l=true)(hl:l.length≤2){Z:Nat}{sa la:Option Addr}{sc lc u:Nat}(hs:Sgn1 w Z sa la sc lc u)(ao:W0.heap.size≤u)(hS:¬ S u) : Calls prog 15 #[.agg (YJ cs a l.length c).toArray,.pointer (some ⟨Z,0,none⟩)] w fun e w'=>(∃ kd nm st p1 i1 d1 p2 i2 d2 a' c',e = .returned (.tuple #[.agg #[.int .i64 kd,.int .i64 nm,.string st,.slice p1 i1 d1,.slice p2 i2 d2,.slice a' (l.length+1) c'],.int .i64 0])∧Env n (fun g=>w.heap.size≤g) w' [.int .i64 kd,.int .i64 nm,.string st,.slice p1 i1 d1,.slice p2 i2 d2] v a' c' (l++[rowS (kE n v l)]))∧xZ w' Z (.slice sa 1 sc) (.slice la 1 lc) (k80 qB) (.map (some u))∧zb [u] w w':=by
 obtain⟨kd,nm,st,p1,i1,d1,p2,i2,d2,rfl⟩:=h.rep.conv;obtain⟨t,Gj⟩:=XE ((w.alloc (.cells #[.int .i64 kd,.int .i64 nm,.string st,.slice p1 i1 d1,.slice p2 i2 d2,.slice a l.length c] 28)).alloc (.cells #[.int .i64 0,.int .i64 0,.string ⟨#[]⟩,.slice none 0 0,.slice none 0 0,.slice none 0 0] 28));have Gs:Hid (zb [] w t):=qI (kA2 Gj.o);have M:Hid (jG t w.heap.size kd nm st (.slice p1 i1 d1) (.slice p2 i2 d2) (.slice a l.length c)):=qI (by rw [Gj.o];exact ((zb.refl [] _).alloc _).heap (ze rfl) Wz);have Gv:Hid (jG t (w.heap.size+1) 0 0 ⟨#[]⟩ (.slice none 0 0) (.slice none 0 0) (.slice none 0 0)):=qI (by rw [Gj.o];exact ze Wz);have Gw:Hid (∀ w2,zb [u] t w2→xH w2∧qK w2):=qI (fun w2 y=>by
  have f:zb [] W0 w2:=(aj.then Gs.o).trans y (by intro i hi;rw [List.mem_singleton] at hi;subst hi;exact .inr ao);exact⟨ag.k0 f,O.k0 f⟩)
 have U:=qI (h.k0 Gs.o);have Gx:=qI (hs.k0 Gs.o);have Jl:=qI hs.box;have Gk:Hid (xZ t Z (.slice sa 1 sc) (.slice la 1 lc) (k80 qB) (.map (some u))):=qI Gx.o.box;have Je:=qI hs.used.lt;have Gy:Hid (kind t u=1):=qI Gx.o.used.kind;have Gz:=qI (Gw.o t Wd);have CM:Hid (zJ t 21 #[.agg #[.int .i64 kd,.int .i64 nm,.string st,.slice p1 i1 d1,.slice p2 i2 d2,.slice a l.length c]] (.bool true)):=qI (by have f:=qF U.o Gz.o.1;rw [hm] at f;exact f);have CB:Hid (∀ w2,zb [] t w2→Calls prog 20 #[.agg #[.int .i64 kd,.int .i64 nm,.string st,.slice p1 i1 d1,.slice p2 i2 d2,.slice a l.length c]] w2 fun e w'=>(∃ q d,e = .returned (.slice q (kE n v l).length d)∧zp w' (.slice q (kE n v l).length d) (kE n v l))∧zb [] w2 w'):=qI (fun w2 y=>by have f:=zaU (U.o.k0 y) (Gz.o.1.k0 y);exact f);have Jf:Hid ((kE n v l).length≤1048576):=qI (bodyB_len n v l);generalize hB:kE n v l=B at CB Jf ⊢;have CS:Hid (∀ w2 q d,zb [] t w2→zp w2 (.slice q B.length d) B→Calls prog 48 #[.pointer (some ⟨Z,0,none⟩),.slice q B.length d] w2 _):=qI (fun w2 q d y hb=>sgrSign1_any (Gx.o.k0 y) hb Jf.o (Gz.o.2.k0 y));obtain⟨f1,f2,f3,f4,f5,f6⟩:=JA B;have CE:Hid (∀ w2 a1 c1 a2 c2,Slc w2 32 (.slice a1 8 c1) 8 ((xF B).one.rev.flatten.map bv)→Slc w2 32 (.slice a2 8 c2) 8 ((xF B).one.oth.flatten.map bv)→Calls prog 49 #[.agg #[.int .i64 0,.slice a1 8 c1,.slice a2 8 c2,.slice none 0 0]] w2 fun e w'=>(∃ a c,e = .returned (.tuple #[.slice a 516 c,.int .i64 0])∧zp w' (.slice a 516 c) (xQ (xF B)))∧zb [] w2 w'):=qI (fun w2 a1 c1 a2 c2 f h2=>by
  have z:=sigEncode_any (s:=xF B) (XB) f1 f2 f3 Wo f4 f5 f6 f h2 (⟨rfl,.inl ⟨rfl,rfl⟩⟩:Slc w2 32 (.slice none 0 0) 0 []) Wo;rw [v8] at z;exact z)
 have CC:Hid (∀ w2,zb [u] t w2→Calls prog 50 #[.slice a l.length c] w2 _):=qI (fun w2 y=>cloneRows_any (Slc.mapped U.o.rows Wo Gy.o y) Ws);have CP:Hid (∀ w2,zb [u] t w2→Calls prog 18 #[.pointer (some ⟨Z,0,none⟩)] w2 fun e w'=>e = .returned (.agg (yU (k80 qB)))∧zb [] w2 w'):=qI (fun w2 f=>zaF (f.heap Gk.o (fun e=>by rw [List.mem_singleton] at e;exact xM Gy.o (zU Gk.o) Wo e.symm)) (qN _ _ _));have CI:Hid (∀ w2,zb [u] t w2→Calls prog 51 #[.agg (yU (k80 qB))] w2 fun e w'=>e = .returned (.string (qb (k80 qB)))∧zb [] w2 w'):=qI (fun w2 f=>keyId_any (k80 qB) (by constructor <;> decide) (qN _ _ _) w2 (Gw.o w2 f).1 (Gw.o w2 f).2);have CX:Hid (∀ w2 q d,zp w2 (.slice q 516 d) (xQ (xF B))→Calls prog 52 #[.slice q 516 d] w2 fun e w'=>e = .returned (.string (jy (xQ (xF B))))∧zb [] w2 w'):=qI (fun w2 q d f=>by
  have G:=v8 B;have z:=zaz (w:=w2) (a:=q) (c:=d) (l:=xQ (xF B)) (by rw [G];exact f) (by rw [G];decide) (by intro e;rw [e] at G;cases G);rw [G] at z;exact z)
 have CV:Hid (∀ w2,zb [u] t w2→Calls prog 53 #[.agg #[.int .i64 kd,.int .i64 nm,.string st,.slice p1 i1 d1,.slice p2 i2 d2]] w2 fun e w'=>(∃ kd nm st p1 i1 d1 p2 i2 d2,e = .returned (.agg #[.int .i64 kd,.int .i64 nm,.string st,.slice p1 i1 d1,.slice p2 i2 d2])∧Rep n (fun g=>w.heap.size≤g∧g≠w.heap.size+1) w' [.int .i64 kd,.int .i64 nm,.string st,.slice p1 i1 d1,.slice p2 i2 d2] v)∧zb [] w2 w'):=qI (fun w2 y=>by
  have f:Rep n S w2 [.int .i64 kd,.int .i64 nm,.string st,.slice p1 i1 d1,.slice p2 i2 d2] v:=U.o.rep.kept y (by intro k y;rw [List.mem_singleton] at y;rw [y];exact hS);refine (clone_any n v f U.o.small).mono (fun e w' z=>?_);obtain⟨⟨av,rfl,ho⟩,au⟩:=z;have h2:=Rep.mono (T:=fun g=>w.heap.size≤g∧g≠w.heap.size+1) ho.rep (fun g _ hg=>by
   have h3:=y.size;have h4:=lt_of_block Gv.o;exact⟨Ws,Ws⟩)
  obtain⟨k,m,s,p,i,c,q,j,d,rfl⟩:=h2.conv;exact⟨⟨k,m,s,p,i,c,q,j,d,rfl,h2⟩,au⟩)
 have Gh:Hid (rowS B=⟨qb (k80 qB),jy (xQ (xF B))⟩):=qI rfl;have Gl:Hid ((qb (k80 qB)).size=64∧(jy (xQ (xF B))).size=1032):=qI ⟨idS_size rfl,by rw [jU,v8]⟩;have Jm:=qI hl;have aq:(l.length:Int)≤2:=Ws;clear h hm hs hl f1 f2 f3 f4 f5 f6 ag O aj;generalize xQ (xF B)=code at CE CX Gh Gl;generalize jy code=X at CX Gh Gl;generalize qb (k80 qB)=idk at CI Gh Gl;generalize rowS B=rw' at Gh ⊢;generalize k80 qB=kk at CP CI Gk ⊢;generalize ad:l.length=m at Gj M CM CB CC aq ⊢;have HM:=qI ad;clear ad;obtain⟨c0,c1,ab,c3,c4,c5⟩:=yS M.o;show Calls _ _ #[.agg #[.int .i64 kd,.int .i64 nm,.string st,.slice p1 i1 d1,.slice p2 i2 d2,.slice a m c],.pointer (some ⟨Z,0,none⟩)] _ _;go_enter func15,ntmps15;go_upto_region 1 with fail;refine xg Gj.o ?_;go_upto_region 5 with (go_at_call 21;refine CM.o.mono ?_;rintro e w2 ⟨rfl,x⟩;have Jg:=qI x;have y0:=x.cell c0 Wz;have y1:=x.cell c1 Wz;have y2:=x.cell ab Wz;have y3:=x.cell c3 Wz;have y4:=x.cell c4 Wz;have y5:=x.cell c5 Wz;clear x c0 c1 ab c3 c4 c5);have Gi:Hid (w.heap.size ∉ [u]):=qI (by have:=Je.o;simp;omega);go_upto_region 6 with first
  | (go_at_call 48;refine (CS.o _ _ _ Jh.o Jn.o).mono ?_;rintro e w4 ⟨⟨a1,e1,a2,e2,rfl,am,ah⟩,ai⟩;have Jo:=qI am;have Jp:=qI ah;have Jq:Hid (zb [u] t w4):=qI ((Jh.o.mono Wz).trans' ai);clear am ah ai)
  | (go_at_call 20;refine (CB.o _ Jg.o).mono ?_;rintro e w3 ⟨⟨q,d,rfl,aa⟩,ak⟩;have Jn:=qI aa;have Jh:=qI (Jg.o.then ak);clear aa ak y0 y1 y2 y3 y4 y5)
 obtain⟨W5,Ja⟩:=XE (w4.alloc (.cells #[.int .i64 0,.slice a1 8 e1,.slice a2 8 e2,.slice none 0 0] 87));have Ge:Hid (zb [] w4 W5):=qI (kA1 Ja.o);have Gt:Hid (zbr W5 w4.heap.size 0 (.slice a1 8 e1) (.slice a2 8 e2) (.slice none 0 0)):=qI (by rw [Ja.o];exact ze rfl);refine xg Ja.o ?_;have Ji:Hid (zb [u] t W5):=qI (Jq.o.then Ge.o);have s0:=za (o:=0) Gt.o rfl;have s1:=za (o:=1) Gt.o rfl;have s2:=za (o:=2) Gt.o rfl;have s3:=za (o:=3) Gt.o rfl;have ap:=qI (CE.o W5 a1 e1 a2 e2 (Slc.k0 Jo.o Ge.o) (Slc.k0 Jp.o Ge.o));go_upto_region 11 with (go_at_call 49;refine ap.o.mono ?_;rintro e w6 ⟨⟨a6,c6,rfl,al⟩,Y⟩;have Jr:=qI al;have Gu:Hid (zb [u] t w6):=qI (Ji.o.then Y);have z5:=(Ji.o.then Y).cell (za (o:=5) M.o rfl) Gi.o;clear al Y s0 s1 s2 s3);go_upto_region 12 with first
  | (at_builtin;refine zG tySigs (m:=1) (news:=[.string idk,.string X]) (zk Jj.o (Gd.o.alloc (.cells #[.string idk,.string X] 38)) Wz) (yv ar [.string idk,.string X] 2 1 _ _ rfl rfl Wo) (by simp [Value.oneCell']) (by simp only [maxLen];omega) Ws (by have:=Gd.o.size;have:=Jb.o;simp;omega) rfl _ _ rfl rfl rfl ?_;intro aw an I W _ _;obtain⟨A,C,rfl,-,-⟩:=(Slc.of_row I).form;have Gm:=qI I;have Jc:Hid (zb [] w6 an):=qI ((Gn.o.then (Gd.o.alloc _)).trans W (fun i hi=>.inr (Jj.o.lt i (XD hi)).1));clear I W)
  | (go_at_call 52;refine (CX.o _ _ _ (Slc.k0 Jr.o (Gn.o.then Gp.o))).mono ?_;rintro e ar ⟨rfl,N⟩;have Gd:=qI (Gp.o.then N);clear N)
  | (go_at_call 51;refine (CI.o _ (Jk.o.then Gq.o)).mono ?_;rintro e w9 ⟨rfl,ae⟩;have Gp:=qI (Gq.o.then ae);clear ae)
  | (go_at_call 18;refine (CP.o _ Jk.o).mh ?_;rintro e w8 rfl Gq)
  | (go_at_call 50;refine (CC.o _ Gu.o).mono ?_;rintro e w7 ⟨⟨a7,c7,rfl,af⟩,K⟩;have Jj:=qI af;have Gn:=qI K;have Jk:Hid (zb [u] t w7):=qI (Gu.o.then K);have Jb:=qI K.size;clear af K z5)
 have J:Hid (zb [u] t an):=qI (Gu.o.then Jc.o);have Js:Hid (w.heap.size+1 ∉ [u]):=qI (by have:=Je.o;simp;omega);have x0:=J.o.cell (za (o:=0) M.o rfl) Gi.o;have x1:=J.o.cell (za (o:=1) M.o rfl) Gi.o;have x2:=J.o.cell (za (o:=2) M.o rfl) Gi.o;have x3:=J.o.cell (za (o:=3) M.o rfl) Gi.o;have x4:=J.o.cell (za (o:=4) M.o rfl) Gi.o;go_wp2_with (go_at_call 53;refine (CV.o _ J.o).mono ?_;rintro e L ⟨⟨E,F,D,q1,j1,f,q2,j2,h2,rfl,R⟩,H⟩;have Jd:=qI R;have Gf:=qI H;have P:=qI ((J.o.then H).heap Gv.o Js.o);have r0:=za (o:=0) P.o rfl;have r1:=za (o:=1) P.o rfl;have r2:=za (o:=2) P.o rfl;have r3:=za (o:=3) P.o rfl;have r4:=za (o:=4) P.o rfl;have r5:=za (o:=5) P.o rfl;have rz:∀ j,L.frozen? ⟨w.heap.size+1,j,none⟩=false:=fun j=>zh P.o;clear R H x0 x1 x2 x3 x4);change bodyPost _ _ _ _ _ (JE L (w.heap.size+1) (.int .i64 E) (.int .i64 F) (.string D) (.slice q1 j1 f) (.slice q2 j2 h2) (.slice A (m+1) C));have Gr:=Zg L (w.heap.size+1) (.int .i64 E) (.int .i64 F) (.string D) (.slice q1 j1 f) (.slice q2 j2 h2) (.slice A (m+1) C);have Gg:=Ks P.o (.int .i64 E) (.int .i64 F) (.string D) (.slice q1 j1 f) (.slice q2 j2 h2) (.slice A (m+1) C);generalize JE L (w.heap.size+1) (.int .i64 E) (.int .i64 F) (.string D) (.slice q1 j1 f) (.slice q2 j2 h2) (.slice A (m+1) C)=WF at Gr Gg;obtain⟨y0,y1,y2,y3,y4,y5⟩:=yS Gg;refine bodyPost_ret (v:=.tuple #[.agg #[.int .i64 E,.int .i64 F,.string D,.slice q1 j1 f,.slice q2 j2 h2,.slice A (m+1) C],.int .i64 0]) (by simp [results,results15,go_sem,y0,y1,y2,y3,y4,y5]) rfl ?_;have ax:w.heap.size+1<w6.heap.size:=by have h3:=lt_of_block Gv.o;have:=Gu.o.size;omega
 have Q:(l++[rw']).length=m+1:=by rw [List.length_append,HM.o];rfl
 refine⟨⟨E,F,D,q1,j1,f,q2,j2,h2,A,C,rfl,?_,U.o.small,U.o.deep,?_,?_,?_⟩,(((J.o.then Gf.o).heap Gk.o (fun e=>by rw [List.mem_singleton] at e;exact xM Gy.o (zU Gk.o) Wo e.symm)) |> fun h=>Gr.heap h (by have:=lt_of_block Jl.o;simp;omega)),?_⟩;·exact Jd.o.move Gr (fun g _ hg=>⟨by rw [List.mem_singleton];exact hg.2,hg.1⟩)
 ·have z:=Slc.of_row Gm.o;unfold xT;rw [zaY,Q];have h8:(rw').enc=[.string idk,.string X]:=by rw [Gh.o];rfl
  rw [h8];refine Slc.kept (Slc.k0 z Gf.o) Gr (fun g hg X=>?_);rw [List.mem_singleton] at X;have:=(Gm.o.lt g (yI hg)).1;omega
 ·intro r hr;rcases List.mem_append.1 hr with z | z;·exact U.o.texts r z
  ·rw [List.mem_singleton] at z;rw [z,Gh.o];exact⟨by show idk.size≤_;have:=Gl.o.1;omega,by show X.size≤_;have:=Gl.o.2;omega⟩
 ·have:=Jm.o;rw [Q];have:=HM.o;omega
 ·exact (((Gs.o.mono Wz).trans' J.o).then Gf.o).trans Gr (by intro b hb;rw [List.mem_singleton] at hb;subst hb;exact .inr Ws)
theorem gtext_pos (h:Qw v s=some x)(h3:jh n x=4)(a:((Zx n x).size:Int)≤most):b9 v false s most=(Zx n x,false):=by
 unfold b9 jO;rw [h];simp only [Bool.false_eq_true,if_false];rw [if_pos ⟨h3,by simp [a]⟩]
theorem gmap_pos (h:Qw v s=some x)(h3:jh n x=6):fmap v false s=(some x,false):=by
 unfold fmap jO;rw [h];simp only [Bool.false_eq_true,if_false];rw [if_pos ⟨h3,trivial⟩]
theorem glist_pos (h:Qw v s=some x)(h3:jh n x=5)(a:(bI n x:Int)≤most):QD v false s most=(some x,false):=by
 unfold QD jO;rw [h];simp only [Bool.false_eq_true,if_false];rw [if_pos ⟨h3,by simp [a]⟩]
abbrev K1:ByteArray:=⟨#[107,101,121,105,100]⟩
abbrev K0:ByteArray:=⟨#[115,105,103]⟩
abbrev Z8:ByteArray:=⟨#[115,105,103,110,97,116,117,114,101,115]⟩
abbrev zan:ByteArray:=⟨#[115,105,103,110,101,100]⟩
abbrev Z9:ByteArray:=⟨#[95,116,121,112,101]⟩
abbrev YM:ByteArray:=⟨#[114,111,111,116]⟩
def jD (r:yh):V 10:=(vf [(K1,(q8 r.id:VS (V 8))),(K0,q8 r.sig)]:VS (V 9))
def qg (v:V 11)(l:List yh):V 12:=(vf [(Z8,(ju (l.map jD):VS (V 10))),(zan,v)]:VS (V 11))
def v0:V 11:=(vf [(Z9,(q8 YM:VS (V 9)))]:VS (V 10))
theorem sort2 (a b:ByteArray×α)(d:leK a b=true):([a,b]:List (ByteArray×α)).mergeSort leK=[a,b]:=by
 refine List.mergeSort_of_pairwise ?_;simp only [List.pairwise_cons,List.mem_cons,List.not_mem_nil,or_false,forall_eq,List.Pairwise.nil,false_imp_iff,implies_true,and_true];exact d
theorem sort1 (a:ByteArray×α):([a]:List (ByteArray×α)).mergeSort leK=[a]:=by
 refine List.mergeSort_of_pairwise ?_;simp
theorem K3 (s:ByteArray):zI (n+1) (q8 s:VS (V n))=(q8 s:VS (V n)):=by
 show (⟨4,0,_,_,List.mergeSort _ _⟩:VS (V n))=_;rw [show ((q8 s:VS (V n)).m.map (fun p=>(p.1,zI n p.2)))=[] from rfl,List.mergeSort_nil];rfl
theorem sort_sigV (r:yh):zI 10 (jD r)=jD r:=by
 show (⟨6,0,_,_,List.mergeSort [(_,zI 9 _),(_,zI 9 _)] _⟩:VS (V 9))=_;rw [K3,K3,sort2 _ _ Wk];rfl
theorem sort_v0:zI 11 v0=v0:=by
 show (⟨6,0,_,_,List.mergeSort [(_,zI 10 _)] _⟩:VS (V 10))=_;rw [K3,sort1];rfl
theorem Y3 (l:List yh):zI 12 (qg v0 l)=qg v0 l:=by
 show (⟨6,0,_,_,List.mergeSort [(_,zI 11 _),(_,zI 11 _)] _⟩:VS (V 11))=_;have e:zI 11 (ju (l.map jD):VS (V 10))=(ju (l.map jD):VS (V 10)):=by show (⟨5,0,_,(l.map jD).map (zI 10),List.mergeSort [] _⟩:VS (V 10))=_;rw [List.mergeSort_nil,List.map_map,show (zI 10 ∘ jD)=jD from funext sort_sigV];rfl
 rw [sort_v0,e,sort2 _ _ Wk];rfl
theorem litsE:zw K1=true∧zw K0=true∧zw Z8=true∧zw zan=true∧zw Z9=true∧zw YM=true:=
 ⟨qx Wo,qx Wo,qx Wo,qx Wo,qx Wo,qx Wo⟩
theorem right_v0:zo 11 v0=true:=by
 refine vJ (n:=10) _ (by simp only [List.mem_singleton,forall_eq];exact litsE.2.2.2.2.1) Wz ?_;intro p hp;rw [List.mem_singleton] at hp;rw [hp];exact jV (n:=9) _ litsE.2.2.2.2.2
theorem right_sigV (a:zw r.id=true)(h2:zw r.sig=true):zo 10 (jD r)=true:=by
 refine vJ (n:=9) _ ?_ (by simp only [List.map_cons,List.map_nil];decide) ?_
 ·intro p hp;simp only [List.mem_cons,List.not_mem_nil,or_false] at hp;rcases hp with rfl | rfl;·exact litsE.1
  ·exact litsE.2.1
 ·intro p hp;simp only [List.mem_cons,List.not_mem_nil,or_false] at hp;rcases hp with rfl | rfl;·exact jV (n:=8) _ a
  ·exact jV (n:=8) _ h2
theorem right_env (h:∀ r,r∈l→zw r.id=true∧zw r.sig=true):zo 12 (qg v0 l)=true:=by
 refine vJ (n:=11) _ ?_ (by simp only [List.map_cons,List.map_nil];decide) ?_
 ·intro p hp;simp only [List.mem_cons,List.not_mem_nil,or_false] at hp;rcases hp with rfl | rfl;·exact litsE.2.2.1
  ·exact litsE.2.2.2.1
 ·intro p hp;simp only [List.mem_cons,List.not_mem_nil,or_false] at hp;rcases hp with rfl | rfl;·refine right_list _ (fun p hp=>?_);obtain⟨r,a,rfl⟩:=List.mem_map.1 hp;exact right_sigV (h r a).1 (h r a).2
  ·exact right_v0
theorem check_v0:zY 11 v0=0:=qh.2 ⟨by show (2:Nat)≤12;decide,by show (2:Nat)≤4096;decide,right_v0⟩
theorem check_one (a:zw r.id=true)(h2:zw r.sig=true):zY 12 (qg v0 [r])=0:=
 qh.2 ⟨by show (4:Nat)≤12;decide,by show (7:Nat)≤4096;decide,right_env (by simp [a,h2])⟩
theorem check_none:zY 12 (qg v0 [])=0:=
 qh.2 ⟨by show (3:Nat)≤12;decide,by show (4:Nat)≤4096;decide,right_env Wz⟩
theorem bytes_one (r:yh):zT 12 (qg v0 [r])=33+r.id.size+r.sig.size:=by
 have e:zT 12 (qg v0 [r])=0+(10+(6+0))+((0+0+((0+(5+(3+0))+((r.id.size+0+0)+((r.sig.size+0+0)+0)))+0))+((0+(5+0)+((4+0+0)+0))+0)):=rfl;rw [e];omega
theorem enc_one (d:zw r.id=true)(h2:zw r.sig=true)(e:r.id.size+r.sig.size≤4000):xR 12 (qg v0 [r])=(zr 12 (qg v0 [r]),0):=by
 have hc:=check_one d h2;have a:=Qk 12 (qg v0 [r]) (qh.1 hc).2.2;have b:zq 12 (qg v0 [r])=7:=rfl;rw [bytes_one,b] at a;exact (Qn.2 ⟨hc,by rw [Y3];omega,by rw [Y3]⟩)
theorem dec_one (b:zw r.id=true)(h2:zw r.sig=true)(a:r.id.size+r.sig.size≤4000):xI (xR 12 (qg v0 [r])).1 = .inr (qg v0 [r]):=by
 have h:=(dec_enc (enc_one b h2 a)).2.1;rw [Y3] at h;rw [enc_one b h2 a];exact h
def textN:List UInt8:=[123,34,115,105,103,110,97,116,117,114,101,115,34,58,91,93,44,34,115,105,103,110,101,100,34,58,123,34,95,116,121,112,101,34,58,34,114,111,111,116,34,125,125]
theorem enc_none:xR 12 (qg v0 [])=(textN,0):=by
 have e:zr 12 (qg v0 [])=textN:=Wk;exact (Qn.2 ⟨check_none,by rw [Y3,e];decide,by rw [Y3,e]⟩)
def j7:List UInt8:=[123,34,95,116,121,112,101,34,58,34,114,111,111,116,34,125]
theorem enc_v0:xR 11 v0=(j7,0):=by
 have e:zr 11 v0=j7:=Wk;exact (Qn.2 ⟨check_v0,by rw [sort_v0,e];decide,by rw [sort_v0,e]⟩)
theorem env_may (l:List yh)(b:l.length≤16)(a:l.all xn=true):yf 11 v0 l=true:=by
 unfold yf;rw [a,decide_eq_true b,decide_eq_true check_v0];rfl
theorem body_v0 (h:yf 11 v0 l=true):kE 11 v0 l=j7:=by
 unfold kE;rw [if_pos h,enc_v0]
theorem key80:yr (k80 qB)=true:=rfl
def rS:yh:=rowS j7
theorem rS_id0:rS.id=qb (k80 qB):=by unfold rS rowS;rfl
theorem rS_sig0:rS.sig=jy (xQ (xF j7)):=by unfold rS rowS;rfl
theorem key_fine {k:yX}(h:yr k=true):(qb k).size=64∧zw (qb k)=true∧b8 (qb k)=true:=by
 refine⟨idS_size h,?_,?_⟩;·unfold qb;rw [if_pos h];exact hexS_ok _
 ·unfold b8 qb;rw [if_pos h,unhex_hex];simp [yK]
theorem rS_id:rS.id.size=64∧zw rS.id=true∧b8 rS.id=true:=by
 rw [rS_id0];exact key_fine key80
theorem code_fine (m:List UInt8):(jy (xQ (xF m))).size=1032∧zw (jy (xQ (xF m)))=true∧xo (jy (xQ (xF m)))=some (xQ (xF m)):=⟨by rw [jU,v8],hexS_ok _,unhex_hex _⟩
theorem QT:rS.sig.size=1032∧zw rS.sig=true∧xo rS.sig=some (xQ (xF j7)):=by
 rw [rS_sig0];exact code_fine j7
theorem rS_row:xn rS=true:=by
 unfold xn;rw [rS_id.2.2,QT.2.2,QT.1];rfl
theorem zay:yf 11 v0 [rS]=true:=env_may _ Wo (by simp [rS_row])
theorem Y9:yf 11 v0 []=true:=env_may _ Wo rfl
theorem sigS_code (m:List UInt8):YO ((xQ (xF m)).take 4)=0∧ki 8 0 (xQ (xF m))=xF m:=by
 obtain⟨i,h2,h3,f,b,h6⟩:=JA m;have l:(jZ (xF m).one).length=512:=by rw [K9 f b Ws,i]
 have hp:(jN 0 4).length=4:=xB _ _;have a:xQ (xF m)=jN 0 4++(jZ (xF m).one++[]):=by unfold xQ;rw [List.append_assoc];rfl
 rw [List.append_nil] at a;have e:(xQ (xF m)).take 4=jN 0 4:=by rw [a,List.take_left' hp]
 have k:(xQ (xF m)).drop 4=jZ (xF m).one:=by rw [a,List.drop_left' hp]
 have h:YO (jN 0 4)=0:=Wo;refine⟨by rw [e,h],?_⟩;unfold ki;have j:((xQ (xF m)).drop 4).take (64*8)=jZ (xF m).one:=by rw [k,List.take_of_length_le Ws]
 have d:=dec_code f b Ws;rw [i] at d;rw [e,h,j,d];rfl
theorem good_sigS (m:List UInt8):goodB (k80 qB) m (xQ (xF m))=true:=by
 obtain⟨d,h2⟩:=sigS_code m;have a:=v8 m;have e:goodB (k80 qB) m (xQ (xF m))=(yr (k80 qB)&&(bE 8 0 (xQ (xF m))&&verS qB m (ki 8 0 (xQ (xF m))))):=rfl;have hv:verS qB m (xF m)=true:=by unfold verS;rw [Bool.and_eq_true,decide_eq_true_eq,decide_eq_true_eq];refine⟨by show 0<2 ^ 0;decide,?_⟩;have b:jm m (xF m).one=YX 0:=impl_sign [115] 0 8 m;rw [b];rfl
 rw [e,h2,hv,Bool.and_true,Bool.and_eq_true];refine⟨rfl,?_⟩;unfold bE;rw [a,d,Bool.and_eq_true,decide_eq_true_eq,decide_eq_true_eq];exact⟨rfl,Ws⟩
theorem holds_one:Q5 11 v0 [rS] rS (k80 qB)=true:=by
 unfold Q5;rw [zay,body_v0 zay,Bool.true_and,Bool.and_eq_true,decide_eq_true_eq];refine⟨rS_id0,?_⟩;rw [QT.2.2,Option.getD_some];exact good_sigS j7
end Go.Proofs.YtjccecajigmfkaaGreatDoor

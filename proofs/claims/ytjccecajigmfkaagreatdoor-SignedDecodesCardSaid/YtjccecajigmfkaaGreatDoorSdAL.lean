/- Parts of one proof, merged: XPO XPQ XPR XPS XQF XQG. -/
import Derived.Test.YtjccecajigmfkaaGreatDoorSdAK
set_option linter.all false
set_option maxHeartbeats 12800000
set_option maxRecDepth 100000
namespace Go.Proofs.YtjccecajigmfkaaGreatDoor
open Go.Proofs.Tryz
open Go.RowKit
variable {K:ByteArray}{Y:PX}
section
variable {α : Type} {sub : List UInt8 → Nat → Sum Int (α × List UInt8 × Nat)} {s : List UInt8} {c : Nat}
theorem QE {k n:Int}(h:qd s=some (k,n)):yK sub s c = .inr (leaf k n ⟨#[]⟩,s.drop (if k=2∧n=0 then 5 else 4),c)∧(if k=2∧n=0 then 5 else 4)≤s.length∧((k=1∧n=0)∨(k=2∧n=1)∨(k=2∧n=0)):=by
 unfold qd at h;unfold yK;split at h;·rename_i a;injection h with h;injection h with h2 h3;subst h2;subst h3;rw [XK a];exact⟨rfl,Qe a,.inl ⟨rfl,rfl⟩⟩
 rename_i a;rw [XJ a];split at h;·rename_i h2;injection h with h;injection h with h3 h4;subst h3;subst h4;rw [XK h2];exact⟨rfl,Qe h2,.inr (.inl ⟨rfl,rfl⟩)⟩
 rename_i h2;rw [XJ h2];split at h;·rename_i h3;injection h with h;injection h with h4 h5;subst h4;subst h5;rw [XK h3];exact⟨rfl,Qe h3,.inr (.inr ⟨rfl,rfl⟩)⟩
 ·cases h
theorem read_not (h:qd s=none):yK sub s c=if s.head? = some 34 then (match xJ s with | .inl e=>.inl e | .inr (t,r)=>.inr (leaf 4 0 (zw t),r,c)) else if s.head? = some 91 then (match ya (zR sub) 93 (s.length+1) s.tail c [] with | .inl e=>.inl e | .inr (l,r,c')=>.inr (⟨5,0,⟨#[]⟩,l,[]⟩,r,c')) else if s.head? = some 123 then (match ya (zO sub) 125 (s.length+1) s.tail c [] with | .inl e=>.inl e | .inr (l,r,c')=>.inr (⟨6,0,⟨#[]⟩,[],l⟩,r,c')) else match kJ s with | .inl e=>.inl e | .inr (n,r)=>.inr (leaf 3 n ⟨#[]⟩,r,c):=by
 by_cases a:s.head? = some 91
 ·rw [XJ (by rw [a];decide),XK a,pRead_items sub s c a];cases ya (zR sub) 93 (s.length+1) s.tail c [] with
  | inl e=>rfl
  | inr y=>obtain⟨l,r,c'⟩:=y;rfl
 by_cases h6:s.head? = some 123
 ·rw [XJ (by rw [h6];decide),XJ a,XK h6,pRead_map sub s c h6];cases ya (zO sub) 125 (s.length+1) s.tail c [] with
  | inl e=>rfl
  | inr y=>obtain⟨l,r,c'⟩:=y;rfl
 rw [XJ a,XJ h6];unfold qd at h;unfold yK;split at h;·cases h
 split at h;·cases h
 split at h;·cases h
 rename_i d h2 h3;rw [XJ d,XJ h2,XJ h3,XJ a,XJ h6];by_cases b:s.head? = some 34
 ·rw [XK b,XK b];cases xJ s with
  | inl e=>rfl
  | inr y=>obtain⟨t,r⟩:=y;rfl
 ·rw [XJ b,XJ b];cases kJ s with
  | inl e=>rfl
  | inr y=>obtain⟨t,r⟩:=y;rfl
end
section
variable {w : World} {p d : Nat} {S : ByteArray} {s : List UInt8} {c : Nat}
theorem qE {d B:Nat}{w:World}{k n:Int}{s:ByteArray}(a:(Lit.int .i64 k).wf=true)(h2:(Lit.int .i64 n).wf=true):yC (d+1) B w [.int .i64 k,.int .i64 n,.string s,.slice none 0 0,.slice none 0 0] (leaf k n s:VS (V d)):=
 ⟨_,_,[],[],rfl,World.ownsRow_nil _ _ _ _,zL.nil _,World.ownsRow_nil _ _ _ _,zL.nil _,a,h2⟩
theorem pread_word (D:PS w p S 4097 (.inr (s,c)))(hS:S.size≤262144){k n:Int}(M:qd s=some (k,n)) : Calls prog 125 #[.pointer (some ⟨p,0,none⟩),.int .i64 ((d:Int)+1)] w fun e w'=>qR d (yK (zl d) s c) p S w e w':=by
 obtain⟨y,E⟩:=XE (w.alloc (.cells #[.int .i64 0,.int .i64 0,.string ⟨#[]⟩,.slice none 0 0,.slice none 0 0] 25));have Ge:Hid (zb [] w y):=qI (kA1 E.o);have Gm:Hid (y.heap.size=w.heap.size+1):=qI (by rw [E.o];simp);have Gi:Hid (xX y w.heap.size):=qI (by rw [E.o];exact xT w);have Z:Hid (p<w.heap.size):=qI D.lt;have CW:=qI (JR (D.k0 Ge.o) hS);obtain⟨r1,r2,r3⟩:=QE (sub:=zl d) (c:=c) M;obtain⟨i,J,F,hc,hr⟩:=D.open_ok;have hl:=xf hr F;have My:=qI r1;have Mz:=qI r3;have Jh:=qI M;have z:Hid (∀ w',_):=qI (fun w'=>pletters_any k n r3 w');obtain⟨L,P⟩:∃ L:Nat,L=(if k=2∧n=0 then 5 else 4):=⟨_,rfl⟩;have B:(if k=2∧n=0 then (5:Int) else 4)=(L:Int):=by rw [P];split <;> rfl
 rw [B] at z;rw [← P] at My r2;have Yk:Hid (S.data.toList.drop (i+L)=s.drop L):=qI (by rw [← hr,uD]);have A:i+L≤S.size:=Ws;have Yl:=qI A;have aa:(i:Int)+L≤262144:=Ws;have H1:=qI (Ge.o.heap J Wz);have HC:=qI hc;clear D M r1 r2 r3 J F hc hr hl P B A;go_enter func125,ntmps125;go_wp2_with fail;rw [← E.o];refine CW.o.mono ?_;rintro e w1 ⟨X,x⟩;unfold kU at X;rw [Jh.o] at X;subst X;unfold yR;obtain⟨l,I⟩:=XE (w1.alloc (.cells #[.int .i64 k,.int .i64 n,.string ⟨#[]⟩,.slice none 0 0,.slice none 0 0] 25));have Gg:=qI x;have Gf:Hid (zb [] w1 l):=qI (kA1 I.o);have Ym:Hid (yA l w1.heap.size k n ⟨#[]⟩ (.slice none 0 0) (.slice none 0 0)):=qI (by rw [I.o];exact xr _ _ _ _ _ _ _);have Yn:Hid (PAt l p S i c 0):=qI ((Gg.o.then Gf.o).heap H1.o Wz);have Ml:Hid (y.heap.size≤w1.heap.size):=qI x.size;clear x;go_wp2_with fail;rw [← I.o];refine zu (n:=10) (fun w':World=>PAt w' p S i c 0∧yA w' w1.heap.size k n ⟨#[]⟩ (.slice none 0 0) (.slice none 0 0)) 9 Wr Wr ?_;change zT _ _ _ _ _ _ _ _ _ l.drew;have a:(fun w':World=>PAt w' p S i c 0∧yA w' w1.heap.size k n ⟨#[]⟩ (.slice none 0 0) (.slice none 0 0)) l.drew:=⟨(zb.refl [] l).drew.heap Yn.o Wz,Ym.o.k0 (zb.refl [] l).drew⟩;have N:Hid (zb [] l l.drew):=qI (zb.refl [] l).drew;revert a N;generalize l.drew=WD;intro a N;refine zF ?_;intro O R j hR;have b:jA R:=by subst hR;exact fun _ _ _ _ _ h=>h
 refine qT 0 ?_ j rfl rfl Wr b (fun w f=>?_) a ?_;rotate_left;·exact zg
 try simp only [XI]
 refine qT 1 ?_ j rfl rfl Wr b (fun w f=>?_) a ?_;rotate_left;·exact zg
 try simp only [XI]
 refine qT 2 ?_ j rfl rfl Wr b (fun w f=>?_) a ?_;rotate_left;·exact zg
 try simp only [XI]
 refine qT 3 ?_ j rfl rfl Wr b (fun w f=>?_) a ?_;rotate_left;·obtain⟨G,Q,H,W,s4⟩:=f.1.cells;exact zg
 try simp only [XI]
 refine qT 4 ?_ j rfl rfl Wr b (fun w f=>?_) a ?_;rotate_left;·obtain⟨G,Q,H,W,s4⟩:=f.2;exact zg
 try simp only [XI]
 refine qO 5 j rfl Wr (fun K t=>?_);go_simp;refine Calls.mono (z.o _) ?_;rintro e U ⟨rfl,r⟩;have Gh:=qI (N.o.then r);have u:(fun w':World=>PAt w' p S i c 0∧yA w' w1.heap.size k n ⟨#[]⟩ (.slice none 0 0) (.slice none 0 0)) U:=⟨r.heap a.1 Wz,a.2.k0 r⟩;refine t _ _ (.inr u) ?_;clear t K;try simp only [XI]
 clear a r;have a:=u;clear u;refine qT 6 ?_ j rfl rfl Wr b (fun w f=>?_) a ?_;rotate_left;·exact zg
 try simp only [XI]
 refine qO 7 j rfl Wr (fun K t=>?_);go_simp;refine t _ _ (.inr a) ?_;clear t K;try simp only [XI]
 refine qT 8 ?_ j rfl rfl Wr b (fun w f=>?_) a ?_;rotate_left;·exact zg
 try simp only [XI]
 have Gr:=qI a.1;have Yo:=qI a.2;obtain⟨G,Q,H,W,fz⟩:=a.1.cells;have f1:=fz 1;clear fz;refine qO 9 j rfl Wr (fun K t=>?_);go_simp;refine t _ _ (.inl rfl) ?_;clear t K;try simp only [XI]
 refine zE j Wr ?_ _;subst hR;try clear b j O
 clear G Q H W f1 a;rw [show IntKind.i64.wrap ((i:Int)+(L:Int))=((i+L:Nat):Int) by rw [IntKind.wrap_i64];omega];have q:=Gr.o.set1 (i+L);have m:=yc U p 1 (.int .i64 ((i+L:Nat)));revert q m;generalize U.setCell ⟨p,1,none⟩ (.int .i64 ((i+L:Nat)))=w4;intro q m;have Gv:=qI q;have Gj:Hid (zb [p] y w4):=qI (((((Gg.o.then Gf.o).then Gh.o)).mono Wz).trans' m);obtain⟨b0,b1,b2,b3,b4⟩:=Yo.o.kept m (by have J:=Z.o;have h2:=Gm.o;have h3:=Ml.o;simp;omega);have Gb:=qI (Gi.o.kept Gj.o (by have:=Z.o;simp;omega));obtain⟨⟨d0,d1,d2,d3,d4⟩,f0,f1,f2,f3,f4⟩:=Gb.o.facts;clear q m;go_wp2_with fail;obtain⟨WF,e⟩:=XF (yf w4 w.heap.size (.int .i64 k) (.int .i64 n) (.string ⟨#[]⟩) (.slice none 0 0) (.slice none 0 0));obtain⟨KF,y0,y1,y2,y3,y4⟩:=Gb.o.stored e;unfold yf at e;rw [← e];have C:=PS.good (show PAt WF p S (i+L) c 0 from KF.heap Gv.o (by have:=Z.o;simp;omega)) Yl.o HC.o;rw [Yk.o] at C
 exact bodyPost_ret (v:=.agg #[.int .i64 k,.int .i64 n,.string ⟨#[]⟩,.slice none 0 0,.slice none 0 0]) (by simp [results,results125,go_sem,y0,y1,y2,y3,y4]) rfl
  (bH (cs:=[.int .i64 k,.int .i64 n,.string ⟨#[]⟩,.slice none 0 0,.slice none 0 0]) My.o ⟨_,_,_,_,_,_,_,_,_,rfl⟩ (((Ge.o.mono (Y:=[p]) Wz).trans' Gj.o).trans KF (fun i F=>by simp at F;exact .inr Ws)) C (qE (by rcases Mz.o with ⟨rfl,rfl⟩ | ⟨rfl,rfl⟩ | ⟨rfl,rfl⟩ <;> rfl) (by rcases Mz.o with ⟨rfl,rfl⟩ | ⟨rfl,rfl⟩ | ⟨rfl,rfl⟩ <;> rfl)))
end
section
variable {w : World} {p d : Nat} {S : ByteArray} {s : List UInt8} {c : Nat}
theorem asList_eq {d:Nat}(x:Sum Int (List (V d)×List UInt8×Nat)):vK x=(match x with | .inl e=>.inl e | .inr (l,r,c')=>.inr (⟨5,0,⟨#[]⟩,l,[]⟩,r,c'):Sum Int (VS (V d)×List UInt8×Nat)):=by
 cases x with
 | inl e=>rfl
 | inr y=>obtain⟨l,r,c'⟩:=y;rfl
theorem asMap_eq {d:Nat}(x:Sum Int (List (ByteArray×V d)×List UInt8×Nat)):YL x=(match x with | .inl e=>.inl e | .inr (l,r,c')=>.inr (⟨6,0,⟨#[]⟩,[],l⟩,r,c'):Sum Int (VS (V d)×List UInt8×Nat)):=by
 cases x with
 | inl e=>rfl
 | inr y=>obtain⟨l,r,c'⟩:=y;rfl
theorem qR.move {d p:Nat}{R:Sum Int (VS (V d)×List UInt8×Nat)}{S:ByteArray}{w w0 w' k:World}{e:Ending}{r:Nat}{l j b2 b3 m:Value}(h:qR d R p S w0 (.returned (.agg #[l,j,b2,b3,m])) w')(k0:zb [p] w w0)(a:zb [r] w' k)(B:w.heap.size≤r)(z:r<w0.heap.size)(hp:p<w.heap.size):qR d R p S w (.returned (.agg #[l,j,b2,b3,m])) k:=by
 obtain⟨cs,n,t,u,f⟩:=h;refine⟨cs,n,t,(k0.trans u (fun i b=>.inl b)).trans a (fun i b=>by simp at b;exact .inr Ws),?_⟩;cases R with
 | inl x=>exact PS.kept f a (by simp;omega)
 | inr y=>obtain⟨v,q,A⟩:=y;exact⟨PS.kept f.1 a (by simp;omega),f.2.move a (fun g s=>by simp at s;omega) (XC k0.size)⟩
theorem pread_not (hd:d≤100)(ad:qu d)(hs:PS w p S 4097 (.inr (s,c)))(hc:c≤4096)(N:S.size≤262144)(hT:qD p w)(hw:qd s=none)(hb:yu s=true) : Calls prog 125 #[.pointer (some ⟨p,0,none⟩),.int .i64 ((d:Int)+1)] w fun e w'=>qR d (yK (zl d) s c) p S w e w':=by
 obtain⟨W0,Gc⟩:=XE (w.alloc (.cells #[.int .i64 0,.int .i64 0,.string ⟨#[]⟩,.slice none 0 0,.slice none 0 0] 25));have Ge:Hid (zb [] w W0):=qI (kA1 Gc.o);have Gm:Hid (W0.heap.size=w.heap.size+1):=qI (by rw [Gc.o];simp);have Gi:Hid (xX W0 w.heap.size):=qI (by rw [Gc.o];exact xT w);have P:Hid (p<w.heap.size):=qI hs.lt;have CW:=qI (JR (hs.k0 Ge.o) N);have Jo:=qI (hs.k0 Ge.o);have Ji:=qI (hT.step (Ge.o.mono Wz));have Mb:=qI (read_not (sub:=zl d) (c:=c) hw);have Jh:=qI hw;have HC:=qI hc;have af:(d:Int)≤100:=Ws;clear hd;have Mc:=@qI (qu d) (by exact @ad);clear hs hc hT hw ad;cases s with
 | nil=>exact absurd hb Wo
 | cons a t=>
  have ab:0<(zw (a::t)).size:=by rw [zZ];simp
  have h0:(zw (a::t))[0]'ab=a:=rfl;have aa:(0:Int)<(zw (a::t)).size:=Ws;have CR:Hid (∀ w',zb [] W0 w'→Calls prog 75 #[.pointer (some ⟨p,0,none⟩)] w' fun e w2=>e = .returned (.string (zw (a::t)))∧zb [] w' w2):=qI (fun w' k=>Zs (Jo.o.k0 k) N);have G:Hid ((a::t).head? = some a):=qI rfl;clear hb;revert CR ab h0 aa;generalize zw (a::t)=T;intro ab h0 aa CR;by_cases E:a=34
  ·subst E;have Jp:Hid (yK (zl d) (34::t) c=(match xJ (34::t) with | .inl e=>.inl e | .inr (t,r)=>.inr (leaf 4 0 (zw t),r,c))):=qI (by rw [Mb.o];exact XK rfl);have Gk:Hid (∀ (R:World),PS R p S 4097 (Zb (.inr (34::t,c)))→zb [p] w R→qR d (yK (zl d) (34::t) c) p S w (.returned (.agg #[.int .i64 4,.int .i64 0,.string (zw (bo (.inr (34::t,c)))),.slice none 0 0,.slice none 0 0])) R):=qI (fun R h1 h2=>by
    cases hu:xJ (34::t) with
    | inl e=>rw [(bC hu).1] at h1;exact bZ (by rw [Jp.o,hu]) ⟨_,_,_,_,_,_,_,_,_,rfl⟩ h2 h1
    | inr y=>obtain⟨q,r⟩:=y;rw [(vg hu).1] at h1;rw [(vg hu).2];exact bH (by rw [Jp.o,hu]) ⟨_,_,_,_,_,_,_,_,_,rfl⟩ h2 h1 (qE rfl rfl))
   go_enter func125,ntmps125;go_wp2_with fail;rw [← Gc.o];refine CW.o.mono ?_;rintro e w1 ⟨H,u⟩;unfold kU at H;rw [Jh.o] at H;subst H;unfold yR;have M:=qI (u.alloc (.cells #[.int .i64 0,.int .i64 0,.string ⟨#[]⟩,.slice none 0 0,.slice none 0 0] 25));clear u;go_wp2_with fail;refine (CR.o _ M.o).mono ?_;rintro e w2 ⟨rfl,A⟩;have I:=qI (M.o.then A);have Jb:=qI (Jo.o.k0 I.o);have Jc:=qI (Ji.o.step (I.o.mono (Y:=[p]) Wz));clear A;go_wp2_with fail;refine (K1 Jb.o Jc.o N).mono ?_;rintro e w3 ⟨rfl,z,j⟩;have Gr:=qI z;have X:=qI ((I.o.mono (Y:=[p]) Wz).trans' j);clear z j;go_wp2_with fail;refine (vtext_any _ _).mono ?_;rintro e w4 ⟨rfl,C⟩;unfold yR;have Gv:=qI (Gr.o.k0 C);have Gj:=qI (X.o.then C);clear C;have J:=qI (Gi.o.kept Gj.o (by have:=P.o;simp;omega));obtain⟨⟨d0,d1,d2,d3,d4⟩,f0,f1,f2,f3,f4⟩:=J.o.facts;go_wp2_with fail;obtain⟨R,e⟩:=XF (yf w4 w.heap.size (.int .i64 4) (.int .i64 0) (.string (zw (bo (.inr (34::t,c))))) (.slice none 0 0) (.slice none 0 0));obtain⟨K,U,Z,y2,Q,W⟩:=J.o.stored e;unfold yf at e;rw [← e];exact bodyPost_ret (v:=.agg #[.int .i64 4,.int .i64 0,.string (zw (bo (.inr (34::t,c)))),.slice none 0 0,.slice none 0 0]) (by simp [results,results125,go_sem,U,Z,y2,Q,W]) rfl (Gk.o _ (Gv.o.kept K (by have:=P.o;simp;omega)) (((Ge.o.mono (Y:=[p]) Wz).trans' Gj.o).trans K (fun i hi=>by simp at hi;exact .inr Ws)))
  have ae:a.toNat≠34:=fun q=>E (UInt8.toNat_inj.1 q);obtain⟨j1,j2⟩:=zq (a:=(a.toNat:Int)) (b:=34) Ws;by_cases F:a=91
  ·have Jj:Hid (yK (zl d) (a::t) c=vK (ya (zR (zl d)) 93 ((a::t).length+1) t c [])):=qI (by
    rw [Mb.o,XJ (by rw [G.o];exact fun q=>E (by injection q)),XK (by rw [G.o,F]),uE];cases ya (zR (zl d)) 93 ((a::t).length+1) t c [] with
    | inl e=>rfl
    | inr y=>obtain⟨l,r,c'⟩:=y;rfl)
   rw [Jj.o];have HA:=qI F;have Yp:=qI E;clear E F;go_enter func125,ntmps125;go_wp2_with fail;rw [← Gc.o];refine CW.o.mono ?_;rintro e w1 ⟨H,u⟩;unfold kU at H;rw [Jh.o] at H;subst H;unfold yR;have M:=qI (u.alloc (.cells #[.int .i64 0,.int .i64 0,.string ⟨#[]⟩,.slice none 0 0,.slice none 0 0] 25));clear u;go_wp2_with fail;refine (CR.o _ M.o).mono ?_;rintro e w2 ⟨rfl,A⟩;have I:=qI (M.o.then A);have Jb:=qI (Jo.o.k0 I.o);have Jc:=qI (Ji.o.step (I.o.mono (Y:=[p]) Wz));clear A;go_wp2_with fail;have C3:=qI (xY Jb.o N ⟨#[91]⟩);rw [show (⟨#[91]⟩:ByteArray).data.toList=[91] from rfl,(zx 91 (a::t) c).1,XT (by rw [G.o,HA.o]),(zx 91 (a::t) c).2.1 (by rw [G.o,HA.o]),uE] at C3;refine C3.o.mono ?_;rintro e w3 ⟨rfl,z,j⟩;have Gr:=qI z;have X:=qI ((I.o.mono (Y:=[p]) Wz).trans' j);have Md:=qI (Jc.o.step j);clear z j;go_wp2_with fail;refine (plist_any (d:=d) (by exact @Mc.o) Gr.o HC.o N Md.o (f:=(a::t).length+1) (by simp only [XP];omega)).mono ?_;rintro e w5 h;obtain⟨cs,rfl,⟨k5,m5,s5,p5,i5,c5,q5,j5,d5,rfl⟩,B,m⟩:=h;have Gk:Hid (qR d (vK (ya (zR (zl d)) 93 ((a::t).length+1) t c [])) p S w3 (.returned (.agg #[.int .i64 k5,.int .i64 m5,.string s5,.slice p5 i5 c5,.slice q5 j5 d5])) w5):=qI ⟨_,rfl,⟨_,_,_,_,_,_,_,_,_,rfl⟩,B,m⟩;have Gp:=qI (X.o.trans' B);have Mm:Hid (w.heap.size<w3.heap.size):=qI (by have h1:=X.o.size;have h2:=Gm.o;omega);clear B m;have J:=qI (Gi.o.kept Gp.o (by have:=P.o;simp;omega));obtain⟨⟨d0,d1,d2,d3,d4⟩,f0,f1,f2,f3,f4⟩:=J.o.facts;go_wp2_with fail;obtain⟨R,e⟩:=XF (yf w5 w.heap.size (.int .i64 k5) (.int .i64 m5) (.string s5) (.slice p5 i5 c5) (.slice q5 j5 d5));obtain⟨K,U,Z,y2,Q,W⟩:=J.o.stored e;unfold yf at e;rw [← e];exact bodyPost_ret (v:=.agg #[.int .i64 k5,.int .i64 m5,.string s5,.slice p5 i5 c5,.slice q5 j5 d5]) (by simp [results,results125,go_sem,U,Z,y2,Q,W]) rfl (Gk.o.move (e:=.panicked []) ((Ge.o.mono (Y:=[p]) Wz).trans' X.o) K (XA) Mm.o P.o)
  by_cases D:a=123
  ·have Jj:Hid (yK (zl d) (a::t) c=YL (ya (zO (zl d)) 125 ((a::t).length+1) t c [])):=qI (by
    rw [Mb.o,XJ (by rw [G.o];exact fun q=>E (by injection q)),XJ (by rw [G.o];exact fun q=>F (by injection q)),XK (by rw [G.o,D]),uE];cases ya (zO (zl d)) 125 ((a::t).length+1) t c [] with
    | inl e=>rfl
    | inr y=>obtain⟨l,r,c'⟩:=y;rfl)
   rw [Jj.o];have HA:=qI D;have Gs:=qI F;clear E F D;go_enter func125,ntmps125;go_wp2_with fail;rw [← Gc.o];refine CW.o.mono ?_;rintro e w1 ⟨H,u⟩;unfold kU at H;rw [Jh.o] at H;subst H;unfold yR;have M:=qI (u.alloc (.cells #[.int .i64 0,.int .i64 0,.string ⟨#[]⟩,.slice none 0 0,.slice none 0 0] 25));clear u;go_wp2_with fail;refine (CR.o _ M.o).mono ?_;rintro e w2 ⟨rfl,A⟩;have I:=qI (M.o.then A);have Jb:=qI (Jo.o.k0 I.o);have Jc:=qI (Ji.o.step (I.o.mono (Y:=[p]) Wz));clear A;go_wp2_with fail;have C3:=qI (xY Jb.o N ⟨#[91]⟩);rw [show (⟨#[91]⟩:ByteArray).data.toList=[91] from rfl,(zx 91 (a::t) c).1,XO (by rw [G.o];exact fun q=>Gs.o (by injection q)),(zx 91 (a::t) c).2.2 (by rw [G.o];exact fun q=>Gs.o (by injection q))] at C3;refine C3.o.mono ?_;rintro e w3 ⟨rfl,z,j⟩;have Gr:=qI z;have X:=qI ((I.o.mono (Y:=[p]) Wz).trans' j);have Md:=qI (Jc.o.step j);clear z j;go_wp2_with fail;have C4:=qI (xY Gr.o N ⟨#[123]⟩);rw [show (⟨#[123]⟩:ByteArray).data.toList=[123] from rfl,(zx 123 (a::t) c).1,XT (by rw [G.o,HA.o]),(zx 123 (a::t) c).2.1 (by rw [G.o,HA.o]),uE] at C4;refine C4.o.mono ?_;rintro e w4 ⟨rfl,O,C⟩;have Gv:=qI O;have Gj:=qI (X.o.trans' C);have Yq:=qI (Md.o.step C);clear O C;go_wp2_with fail;refine (pmap_any (d:=d) (by exact @Mc.o) Gv.o HC.o N Yq.o (f:=(a::t).length+1) (by simp only [XP];omega)).mono ?_;rintro e w5 h;obtain⟨cs,rfl,⟨k5,m5,s5,p5,i5,c5,q5,j5,d5,rfl⟩,B,m⟩:=h;have Gk:Hid (qR d (YL (ya (zO (zl d)) 125 ((a::t).length+1) t c [])) p S w4 (.returned (.agg #[.int .i64 k5,.int .i64 m5,.string s5,.slice p5 i5 c5,.slice q5 j5 d5])) w5):=qI ⟨_,rfl,⟨_,_,_,_,_,_,_,_,_,rfl⟩,B,m⟩;have Gp:=qI (Gj.o.trans' B);have Mm:Hid (w.heap.size<w4.heap.size):=qI (by have h1:=Gj.o.size;have h2:=Gm.o;omega);clear B m;have J:=qI (Gi.o.kept Gp.o (by have:=P.o;simp;omega));obtain⟨⟨d0,d1,d2,d3,d4⟩,f0,f1,f2,f3,f4⟩:=J.o.facts;go_wp2_with fail;obtain⟨R,e⟩:=XF (yf w5 w.heap.size (.int .i64 k5) (.int .i64 m5) (.string s5) (.slice p5 i5 c5) (.slice q5 j5 d5));obtain⟨K,U,Z,y2,Q,W⟩:=J.o.stored e;unfold yf at e;rw [← e];exact bodyPost_ret (v:=.agg #[.int .i64 k5,.int .i64 m5,.string s5,.slice p5 i5 c5,.slice q5 j5 d5]) (by simp [results,results125,go_sem,U,Z,y2,Q,W]) rfl (Gk.o.move (e:=.panicked []) ((Ge.o.mono (Y:=[p]) Wz).trans' Gj.o) K (XA) Mm.o P.o)
  have Jj:Hid (yK (zl d) (a::t) c=match kJ (a::t) with | .inl e=>.inl e | .inr (n,r)=>.inr (leaf 3 n ⟨#[]⟩,r,c)):=qI (by
    rw [Mb.o,XJ (by rw [G.o];exact fun q=>E (by injection q)),XJ (by rw [G.o];exact fun q=>F (by injection q)),XJ (by rw [G.o];exact fun q=>D (by injection q))];first
    | done
    | (cases kJ (a::t) with
     | inl e=>rfl
     | inr y=>cases y;rfl))
  have Gy:=qI D;have Gs:=qI F;clear E F D;go_enter func125,ntmps125;go_wp2_with fail;rw [← Gc.o];refine CW.o.mono ?_;rintro e w1 ⟨H,u⟩;unfold kU at H;rw [Jh.o] at H;subst H;unfold yR;have M:=qI (u.alloc (.cells #[.int .i64 0,.int .i64 0,.string ⟨#[]⟩,.slice none 0 0,.slice none 0 0] 25));clear u;go_wp2_with fail;refine (CR.o _ M.o).mono ?_;rintro e w2 ⟨rfl,A⟩;have I:=qI (M.o.then A);have Jb:=qI (Jo.o.k0 I.o);have Jc:=qI (Ji.o.step (I.o.mono (Y:=[p]) Wz));clear A;go_wp2_with fail;have C3:=qI (xY Jb.o N ⟨#[91]⟩);rw [show (⟨#[91]⟩:ByteArray).data.toList=[91] from rfl,(zx 91 (a::t) c).1,XO (by rw [G.o];exact fun q=>Gs.o (by injection q)),(zx 91 (a::t) c).2.2 (by rw [G.o];exact fun q=>Gs.o (by injection q))] at C3;refine C3.o.mono ?_;rintro e w3 ⟨rfl,z,j⟩;have Gr:=qI z;have X:=qI ((I.o.mono (Y:=[p]) Wz).trans' j);have Md:=qI (Jc.o.step j);clear z j;go_wp2_with fail;have C4:=qI (xY Gr.o N ⟨#[123]⟩);rw [show (⟨#[123]⟩:ByteArray).data.toList=[123] from rfl,(zx 123 (a::t) c).1,XO (by rw [G.o];exact fun q=>Gy.o (by injection q)),(zx 123 (a::t) c).2.2 (by rw [G.o];exact fun q=>Gy.o (by injection q))] at C4;refine C4.o.mono ?_;rintro e w4 ⟨rfl,O,C⟩;have Gv:=qI O;have Gj:=qI (X.o.trans' C);clear O C;go_wp2_with fail;refine (pnumber_any Gv.o N).mono ?_;rintro e w5 ⟨h,B⟩;have Gp:=qI (Gj.o.trans' B);clear B;unfold JY at h;cases hn:kJ (a::t) with
  | inl x=>rw [hn] at h;obtain⟨rfl,L⟩:=h;unfold yR;have Jq:=qI L;have Gx:Hid (yK (zl d) (a::t) c = .inl x):=qI (by rw [Jj.o,hn]);clear L hn;have J:=qI (Gi.o.kept Gp.o (by have:=P.o;simp;omega));obtain⟨⟨d0,d1,d2,d3,d4⟩,f0,f1,f2,f3,f4⟩:=J.o.facts;go_wp2_with fail;obtain⟨R,e⟩:=XF (yf w5 w.heap.size (.int .i64 0) (.int .i64 0) (.string ⟨#[]⟩) (.slice none 0 0) (.slice none 0 0));obtain⟨K,U,Z,y2,Q,W⟩:=J.o.stored e;unfold yf at e;rw [← e];exact bodyPost_ret (v:=.agg #[.int .i64 0,.int .i64 0,.string ⟨#[]⟩,.slice none 0 0,.slice none 0 0]) (by simp [results,results125,go_sem,U,Z,y2,Q,W]) rfl (bZ (cs:=[.int .i64 0,.int .i64 0,.string ⟨#[]⟩,.slice none 0 0,.slice none 0 0]) Gx.o ⟨_,_,_,_,_,_,_,_,_,rfl⟩ (((Ge.o.mono (Y:=[p]) Wz).trans' Gp.o).trans K (fun i hi=>by simp at hi;exact .inr Ws)) (Jq.o.kept K (by have:=P.o;simp;omega)))
  | inr y=>obtain⟨n,r⟩:=y;rw [hn] at h;obtain⟨rfl,L⟩:=h;unfold yR;have Jq:=qI L;have Ya:=qI (JZ hn).1;have Gx:Hid (yK (zl d) (a::t) c = .inr (leaf 3 n ⟨#[]⟩,r,c)):=qI (by rw [Jj.o,hn]);clear L hn;have J:=qI (Gi.o.kept Gp.o (by have:=P.o;simp;omega));obtain⟨⟨d0,d1,d2,d3,d4⟩,f0,f1,f2,f3,f4⟩:=J.o.facts;go_wp2_with fail;obtain⟨R,e⟩:=XF (yf w5 w.heap.size (.int .i64 3) (.int .i64 n) (.string ⟨#[]⟩) (.slice none 0 0) (.slice none 0 0));obtain⟨K,U,Z,y2,Q,W⟩:=J.o.stored e;unfold yf at e;rw [← e];exact bodyPost_ret (v:=.agg #[.int .i64 3,.int .i64 n,.string ⟨#[]⟩,.slice none 0 0,.slice none 0 0]) (by simp [results,results125,go_sem,U,Z,y2,Q,W]) rfl (bH (cs:=[.int .i64 3,.int .i64 n,.string ⟨#[]⟩,.slice none 0 0,.slice none 0 0]) Gx.o ⟨_,_,_,_,_,_,_,_,_,rfl⟩ (((Ge.o.mono (Y:=[p]) Wz).trans' Gp.o).trans K (fun i hi=>by simp at hi;exact .inr Ws)) (Jq.o.kept K (by have:=P.o;simp;omega)) (qE rfl (zaV (XC Ya.o) (XC Ya.o))))
end
theorem ZS {d p:Nat}{X:PX}{S:ByteArray}{w w':World}{x:Int}(h:X = .inl x∨∃ s c,X = .inr (s,c)∧zl d s c = .inl x)(h2:zb [p] w w')(h3:PS w' p S 4097 (.inl x)):k9 d X p S w (.returned (.agg #[.int .i64 0,.int .i64 0,.string ⟨#[]⟩,.slice none 0 0,.slice none 0 0])) w':=by
 refine⟨ZY,rfl,⟨_,_,_,_,_,_,_,_,_,rfl⟩,h2,?_⟩;rcases h with rfl | ⟨s,c,rfl,h⟩
 ·exact h3
 ·show (match zl d s c with | .inl x=>_ | .inr (v,r,c')=>_);rw [h];exact h3
section
variable {w : World} {p d : Nat} {S : ByteArray} {s : List UInt8} {c : Nat} {x : Int}
theorem pread_any (hd:d≤100)(a:qu d)(h:PS w p S 4097 (.inr (s,c)))(hc:c≤4096)(f:S.size≤262144)(i:qD p w)(j:yu s=true) : Calls prog 125 #[.pointer (some ⟨p,0,none⟩),.int .i64 ((d:Int)+1)] w fun e w'=>qR d (yK (zl d) s c) p S w e w':=by
 cases b:qd s with
 | some q=>obtain⟨k,n⟩:=q;exact pread_word h f b
 | none=>exact pread_not hd (by exact @a) h hc f i b j
theorem zb9 (h:yu (zo s)=false):zl d s c = .inl 50:=by
 cases d with
 | zero=>unfold zl;rw [XK h]
 | succ d=>unfold zl;rw [XK h]
theorem zcp (h:yu (zo s)=true)(hc:4096<c+1):zl d s c = .inl 42:=by
 cases d with
 | zero=>unfold zl;rw [XJ (by rw [h];decide),XK hc]
 | succ d=>unfold zl;rw [XJ (by rw [h];decide),XK hc]
theorem zbN (h:yu (zo s)=true)(hc:¬ 4096<c+1):zl 0 s c = .inl 41:=by
 unfold zl;rw [XJ (by rw [h];decide),XJ hc]
theorem K3 (hd:d≤100)(l:PS w p S 4097 (.inl x))(J:S.size≤262144) : Calls prog 74 #[.pointer (some ⟨p,0,none⟩),.int .i64 d] w fun e w'=>k9 d (.inl x) p S w e w':=by
 obtain⟨r,m⟩:=XE (w.alloc (.cells #[.int .i64 0,.int .i64 0,.string ⟨#[]⟩,.slice none 0 0,.slice none 0 0] 25));have A:Hid (zb [] w r):=qI (kA1 m.o);have G:Hid (xX r w.heap.size):=qI (by rw [m.o];exact xT w);have t:Hid (p<w.heap.size):=qI l.lt;have D:=qI (kr (l.k0 A.o) J);have P:(d:Int)≤100:=Ws;clear hd;clear l;go_enter func74,ntmps74;go_wp2_with fail;rw [← m.o];refine D.o.mono ?_;rintro e w1 ⟨rfl,k,f⟩;have q:Hid (PS w1 p S 4097 (.inl x)):=qI k;obtain⟨i,c,s,n,hc,C,L⟩:=q.o.open_bad;obtain⟨c0,c1,c2,c3,F⟩:=s.cells;obtain⟨g1,Z⟩:=zq (a:=x) (b:=0) Ws;have E:=qI f;have O:=qI (qC q.o i 50 n Ws Ws);clear k f s F c0 c2;go_wp2_with fail;refine O.o.mono ?_;rintro e w2 ⟨rfl,h,j⟩;have K:Hid (PS w2 p S 4097 (.inl x)):=qI h;have z:=qI (E.o.trans' j);clear h j c1 c3;have u:=qI (G.o.kept z.o (by have:=t.o;simp;omega));obtain⟨⟨d0,Q,d2,d3,R⟩,f0,U,f2,W,f4⟩:=u.o.facts;go_wp2_with fail;obtain⟨X,e⟩:=XF (yf w2 w.heap.size (.int .i64 0) (.int .i64 0) (.string ⟨#[]⟩) (.slice none 0 0) (.slice none 0 0));obtain⟨y,H,I,M,B,N⟩:=u.o.stored e;unfold yf at e;rw [← e]
 exact bodyPost_ret (v:=.agg #[.int .i64 0,.int .i64 0,.string ⟨#[]⟩,.slice none 0 0,.slice none 0 0]) (by simp [results,results74,go_sem,H,I,M,B,N]) rfl
  (ZS (.inl rfl) (((A.o.mono (Y:=[p]) Wz).trans' z.o).trans y (fun i n=>by simp at n;exact .inr Ws)) (PS.kept K.o y (by have:=t.o;simp;omega)))
theorem zat (hd:d≤100)(t:yu (zo s)=false)(n:PS w p S 4097 (.inr (s,c)))(E:S.size≤262144) : Calls prog 74 #[.pointer (some ⟨p,0,none⟩),.int .i64 d] w fun e w'=>k9 d (.inr (s,c)) p S w e w':=by
 obtain⟨z,q⟩:=XE (w.alloc (.cells #[.int .i64 0,.int .i64 0,.string ⟨#[]⟩,.slice none 0 0,.slice none 0 0] 25));have F:Hid (zb [] w z):=qI (kA1 q.o);have M:Hid (xX z w.heap.size):=qI (by rw [q.o];exact xT w);have B:Hid (p<w.heap.size):=qI n.lt;have K:=qI (kr (n.k0 F.o) E);have aa:(d:Int)≤100:=Ws;have H:=qI t;clear hd t;clear n;go_enter func74,ntmps74;go_wp2_with fail;rw [← q.o];refine K.o.mono ?_;rintro e w1 ⟨rfl,j,b⟩;have u:Hid (PS w1 p S 4097 (.inr (zo s,c))):=qI j;have L:=qI b;obtain⟨i,m,l,r,G⟩:=u.o.open_ok;have Q1:=qI m;have O:=qI G;obtain⟨c0,c1,c2,c3,k⟩:=m.cells;have Q:=qI (bU u.o E);clear j b m k c0 c1 c2 G;go_wp2_with fail;refine Q.o.mono ?_;rintro e w2 ⟨rfl,a⟩;rw [H.o];have A:Hid (PAt w2 p S i c 0):=qI (a.heap Q1.o Wz);have U:=qI (L.o.then a);obtain⟨c0,c1,c2,N,k⟩:=A.o.cells;have Z:=k 2;clear k c3 a;have CF:=qI (qC (x:=.inr (zo s,c)) ⟨i,c,0,A.o,l,r,rfl,O.o,rfl⟩ i 50 l Ws Ws);clear c0 c2 N Z;go_wp2_with fail;refine CF.o.mono ?_;rintro e I ⟨rfl,h,f⟩;have W:Hid (PS I p S 4097 (.inl 50)):=qI h;have y:=qI (U.o.trans' f);clear h f c1;have C:=qI (M.o.kept y.o (by have:=B.o;simp;omega));obtain⟨⟨d0,d1,d2,d3,d4⟩,f0,f1,f2,f3,f4⟩:=C.o.facts;go_wp2_with fail;obtain⟨WF,e⟩:=XF (yf I w.heap.size (.int .i64 0) (.int .i64 0) (.string ⟨#[]⟩) (.slice none 0 0) (.slice none 0 0));obtain⟨D,P,R,X,J,y4⟩:=C.o.stored e;unfold yf at e;rw [← e]
 exact bodyPost_ret (v:=.agg #[.int .i64 0,.int .i64 0,.string ⟨#[]⟩,.slice none 0 0,.slice none 0 0]) (by simp [results,results74,go_sem,P,R,X,J,y4]) rfl
  (ZS (.inr ⟨_,_,rfl,zb9 H.o⟩) (((F.o.mono (Y:=[p]) Wz).trans' y.o).trans D (fun i l=>by simp at l;exact .inr Ws)) (PS.kept W.o D (by have:=B.o;simp;omega)))
theorem zaL (hd:d≤100)(u:yu (zo s)=true)(hm:4096<c+1)(hc:c≤4096)(n:PS w p S 4097 (.inr (s,c)))(B:S.size≤262144) : Calls prog 74 #[.pointer (some ⟨p,0,none⟩),.int .i64 d] w fun e w'=>k9 d (.inr (s,c)) p S w e w':=by
 obtain⟨m,r⟩:=XE (w.alloc (.cells #[.int .i64 0,.int .i64 0,.string ⟨#[]⟩,.slice none 0 0,.slice none 0 0] 25));have G:Hid (zb [] w m):=qI (kA1 r.o);have N:Hid (xX m w.heap.size):=qI (by rw [r.o];exact xT w);have E:Hid (p<w.heap.size):=qI n.lt;have L:=qI (kr (n.k0 G.o) B);have ab:(d:Int)≤100:=Ws;have aa:(4096:Int)<(c:Int)+1:=Ws;have Q:(c:Int)≤4096:=Ws;have J:=qI u;have HM:=qI hm;have X:=qI hc;clear hd u hm hc;clear n;go_enter func74,ntmps74;go_wp2_with fail;rw [← r.o];refine L.o.mono ?_;rintro e w1 ⟨rfl,j,b⟩;have D:Hid (PS w1 p S 4097 (.inr (zo s,c))):=qI j;have M:=qI b;obtain⟨i,q,l,W,I⟩:=D.o.open_ok;have Q1:=qI q;have P:=qI I;obtain⟨c0,c1,c2,c3,k⟩:=q.cells;have CB:=qI (bU D.o B);clear j b q k c0 c1 c2 I;go_wp2_with fail;refine CB.o.mono ?_;rintro e w2 ⟨rfl,a⟩;rw [J.o];have z:Hid (PAt w2 p S i c 0):=qI (a.heap Q1.o Wz);have Gf:=qI (M.o.then a);obtain⟨c0,c1,c2,O,k⟩:=z.o.cells;have Z:=k 2;clear k c3 a;obtain⟨H,t⟩:=XE (w2.setCell ⟨p,2,none⟩ (.int .i64 ((c:Int)+1)));have U:Hid (PAt H p S i (c+1) 0):=qI (by rw [t.o];exact z.o.set2 (c+1));have Gh:Hid (zb [p] m H):=qI (by rw [t.o];exact Gf.o.trans' (yc _ _ _ _));have CF:=qI (qC (x:=.inr (zo s,c+1)) ⟨i,c+1,0,U.o,l,(by have:=X.o;omega:c+1≤4097),rfl,P.o,rfl⟩ i 42 l Ws Ws);clear c0 O;go_wp2_with fail;rw [← t.o];refine CF.o.mono ?_;rintro e C ⟨rfl,h,f⟩;have Jd:Hid (PS C p S 4097 (.inl 42)):=qI h;have y:=qI (Gh.o.trans' f);clear h f c1 c2 Z;have A:=qI (N.o.kept y.o (by have:=E.o;simp;omega));obtain⟨⟨d0,d1,d2,d3,d4⟩,f0,f1,f2,f3,f4⟩:=A.o.facts;go_wp2_with fail;obtain⟨WF,e⟩:=XF (yf C w.heap.size (.int .i64 0) (.int .i64 0) (.string ⟨#[]⟩) (.slice none 0 0) (.slice none 0 0));obtain⟨F,R,y1,y2,K,y4⟩:=A.o.stored e;unfold yf at e;rw [← e]
 exact bodyPost_ret (v:=.agg #[.int .i64 0,.int .i64 0,.string ⟨#[]⟩,.slice none 0 0,.slice none 0 0]) (by simp [results,results74,go_sem,R,y1,y2,K,y4]) rfl
  (ZS (.inr ⟨_,_,rfl,zcp J.o HM.o⟩) (((G.o.mono (Y:=[p]) Wz).trans' y.o).trans F (fun i l=>by simp at l;exact .inr Ws)) (PS.kept Jd.o F (by have:=E.o;simp;omega)))
end
section
variable {w : World} {p d : Nat} {S : ByteArray} {s : List UInt8} {c : Nat} {x : Int}
theorem Kg (h:yu (zo s)=true)(hc:¬ 4096<c+1):zl (d+1) s c=match yK (zl d) (zo s) (c+1) with | .inl e=>.inl e | .inr (v,r,c')=>.inr (v,zo r,c'):=by
 rw [zl,XJ (by rw [h];decide),XJ hc];cases yK (zl d) (zo s) (c+1) with
 | inl e=>rfl
 | inr y=>rfl
theorem pvalue_deep (t:yu (zo s)=true)(hm:¬ 4096<c+1)(hc:c≤4096)(n:PS w p S 4097 (.inr (s,c)))(D:S.size≤262144) : Calls prog 74 #[.pointer (some ⟨p,0,none⟩),.int .i64 0] w fun e w'=>k9 0 (.inr (s,c)) p S w e w':=by
 obtain⟨l,q⟩:=XE (w.alloc (.cells #[.int .i64 0,.int .i64 0,.string ⟨#[]⟩,.slice none 0 0,.slice none 0 0] 25));have E:Hid (zb [] w l):=qI (kA1 q.o);have O:Hid (xX l w.heap.size):=qI (by rw [q.o];exact xT w);have A:Hid (p<w.heap.size):=qI n.lt;have K:=qI (kr (n.k0 E.o) D);have R:(c:Int)≤4095:=Ws;have H:=qI t;have M:=qI hm;have HC:=qI hc;clear t hm hc;clear n;go_enter func74,ntmps74;go_wp2_with fail;rw [← q.o];refine K.o.mono ?_;rintro e w1 ⟨rfl,h,b⟩;have u:Hid (PS w1 p S 4097 (.inr (zo s,c))):=qI h;have L:=qI b;obtain⟨i,m,k,X,G⟩:=u.o.open_ok;have Q1:=qI m;have Q:=qI G;obtain⟨c0,c1,c2,c3,j⟩:=m.cells;have Z:=qI (bU u.o D);clear h b m j c0 c1 c2 G;go_wp2_with fail;refine Z.o.mono ?_;rintro e w2 ⟨rfl,a⟩;rw [H.o];have z:Hid (PAt w2 p S i c 0):=qI (a.heap Q1.o Wz);have Gf:=qI (L.o.then a);obtain⟨c0,c1,c2,P,j⟩:=z.o.cells;have z2:=j 2;clear j c3 a;obtain⟨F,r⟩:=XE (w2.setCell ⟨p,2,none⟩ (.int .i64 ((c:Int)+1)));have U:Hid (PAt F p S i (c+1) 0):=qI (by rw [r.o];exact z.o.set2 (c+1));have N:Hid (zb [p] l F):=qI (by rw [r.o];exact Gf.o.trans' (yc _ _ _ _));have CF:=qI (qC (x:=.inr (zo s,c+1)) ⟨i,c+1,0,U.o,k,(by have:=HC.o;omega:c+1≤4097),rfl,Q.o,rfl⟩ i 41 k Ws Ws);clear c0 P;go_wp2_with fail;rw [← r.o];refine CF.o.mono ?_;rintro e I ⟨rfl,f,d⟩;have Jd:Hid (PS I p S 4097 (.inl 41)):=qI f;have y:=qI (N.o.trans' d);clear f d c1 c2 z2;have B:=qI (O.o.kept y.o (by have:=A.o;simp;omega));obtain⟨⟨d0,d1,d2,d3,d4⟩,f0,f1,f2,f3,f4⟩:=B.o.facts;go_wp2_with fail;obtain⟨WF,e⟩:=XF (yf I w.heap.size (.int .i64 0) (.int .i64 0) (.string ⟨#[]⟩) (.slice none 0 0) (.slice none 0 0));obtain⟨C,W,y1,y2,J,y4⟩:=B.o.stored e;unfold yf at e;rw [← e]
 exact bodyPost_ret (v:=.agg #[.int .i64 0,.int .i64 0,.string ⟨#[]⟩,.slice none 0 0,.slice none 0 0]) (by simp [results,results74,go_sem,W,y1,y2,J,y4]) rfl
  (ZS (.inr ⟨_,_,rfl,zbN H.o M.o⟩) (((E.o.mono (Y:=[p]) Wz).trans' y.o).trans C (fun i k=>by simp at k;exact .inr Ws)) (PS.kept Jd.o C (by have:=A.o;simp;omega)))
theorem valAns_read {w0 w1:World}{r:Nat}{u n b2 b3 z:Value}(m:yu (zo s)=true)(hm:¬ 4096<c+1)(h:qR d (yK (zl d) (zo s) (c+1)) p S w0 (.returned (.agg #[u,n,b2,b3,z])) w1)(k0:zb [p] w w0)(D:p<w.heap.size)(G:w.heap.size≤r)(E:r<w0.heap.size):∃ X,PS w1 p S 4097 X∧∀ WF,PS WF p S 4097 (xg X)→zb [p,r] w1 WF→k9 (d+1) (.inr (s,c)) p S w (.returned (.agg #[u,n,b2,b3,z])) WF:=by
 obtain⟨cs,l,t,j,b⟩:=h;have F:=k0.size;have C:=j.size;cases f:yK (zl d) (zo s) (c+1) with
 | inl x=>rw [f] at b;refine⟨.inl x,b,fun WF k e=>⟨cs,l,t,(k0.trans j (fun i a=>.inl a)).trans e (fun i a=>by simp at a;rcases a with h | h;exact .inl (by simp [h]);exact .inr Ws),?_⟩⟩;dsimp only;rw [Kg m hm,f];exact k
 | inr y=>obtain⟨v,q,B⟩:=y;rw [f] at b;refine⟨.inr (q,B),b.1,fun WF k e=>⟨cs,l,t,(k0.trans j (fun i a=>.inl a)).trans e (fun i a=>by simp at a;rcases a with h | h;exact .inl (by simp [h]);exact .inr Ws),?_⟩⟩;dsimp only;rw [Kg m hm,f];exact⟨k,b.2.move e (fun g A=>by simp at A;omega) Ws⟩
theorem pvalue_read (hd:d≤100)(C:qu d)(hT:qD p w)(hb:yu (zo s)=true)(hm:¬ 4096<c+1)(hc:c≤4096)(O:PS w p S 4097 (.inr (s,c)))(I:S.size≤262144) : Calls prog 74 #[.pointer (some ⟨p,0,none⟩),.int .i64 ((d:Int)+1)] w fun e w'=>k9 (d+1) (.inr (s,c)) p S w e w':=by
 obtain⟨H,L⟩:=XE (w.alloc (.cells #[.int .i64 0,.int .i64 0,.string ⟨#[]⟩,.slice none 0 0,.slice none 0 0] 25));have W:Hid (zb [] w H):=qI (kA1 L.o);have Gi:Hid (xX H w.heap.size):=qI (by rw [L.o];exact xT w);have U:Hid (p<w.heap.size):=qI O.lt;have CS:=qI (kr (O.k0 W.o) I);have Gm:Hid (H.heap.size=w.heap.size+1):=qI (by rw [L.o];simp);have ad:(d:Int)≤100:=Ws;have aa:(c:Int)≤4095:=Ws;have HB:=qI hb;have Q:=qI hm;have Ji:=qI (hT.step (W.o.mono Wz));have HD:=qI hd;obtain⟨j1,j2⟩:=zq (a:=(d:Int)+1) (b:=0) Ws;have Mc:=@qI (qu d) (by exact @C);clear hb hm hc hd C hT;clear O;go_enter func74,ntmps74;go_wp2_with fail;rw [← L.o];refine CS.o.mono ?_;rintro e w1 ⟨rfl,G,D⟩;have Gn:Hid (PS w1 p S 4097 (.inr (zo s,c))):=qI G;have Gg:=qI D;obtain⟨i,R,M,ab,hr⟩:=Gn.o.open_ok;have Q1:=qI R;have HR:=qI hr;obtain⟨c0,c1,c2,c3,J⟩:=R.cells;have CB:=qI (bU Gn.o I);clear G D R J c0 c1 c2 hr;go_wp2_with fail;refine CB.o.mono ?_;rintro e w2 ⟨rfl,k⟩;rw [HB.o];have Q2:Hid (PAt w2 p S i c 0):=qI (k.heap Q1.o Wz);have Gf:=qI (Gg.o.then k);obtain⟨c0,c1,c2,k3,J⟩:=Q2.o.cells;have z2:=J 2;clear J c3 k;obtain⟨N,Z⟩:=XE (w2.setCell ⟨p,2,none⟩ (.int .i64 ((c:Int)+1)));have Q3:Hid (PAt N p S i (c+1) 0):=qI (by rw [Z.o];exact Q2.o.set2 (c+1));have K:Hid (zb [p] H N):=qI (by rw [Z.o];exact Gf.o.trans' (yc _ _ _ _));have Gr:Hid (PS N p S 4097 (.inr (zo s,c+1))):=qI ⟨i,c+1,0,Q3.o,M,(by have:=Q.o;omega:c+1≤4097),rfl,HR.o,rfl⟩;have CV:=qI (pread_any (d:=d) HD.o (by exact @Mc.o) Gr.o (XC Q.o) I (Ji.o.step K.o) HB.o);clear c0 k3;go_wp2_with fail;rw [← Z.o];refine CV.o.mono ?_;rintro e l q;obtain⟨cs,rfl,⟨y,F,A,B,t,c5,m,u,E,rfl⟩,f,h⟩:=q;have Gk:Hid (qR d (yK (zl d) (zo s) (c+1)) p S N (.returned (.agg #[.int .i64 y,.int .i64 F,.string A,.slice B t c5,.slice m u E])) l):=qI ⟨_,rfl,⟨_,_,_,_,_,_,_,_,_,rfl⟩,f,h⟩;have Gj:=qI (K.o.trans' f);clear f h c1 c2 z2;obtain⟨X4,z,j⟩:=valAns_read (r:=w.heap.size) HB.o Q.o Gk.o ((W.o.mono (Y:=[p]) Wz).trans' K.o) U.o (XA) (by have h1:=K.o.size;have h2:=Gm.o;omega);have Gv:=qI z;have Jr:=qI j;obtain⟨W4,Mn⟩:=XE (l.alloc (.cells #[.int .i64 y,.int .i64 F,.string A,.slice B t c5,.slice m u E] 25));have Yr:Hid (W4.heap[l.heap.size]? = some (.cells #[.int .i64 y,.int .i64 F,.string A,.slice B t c5,.slice m u E] 25 (0,0))):=qI (by rw [Mn.o];exact zd rfl);have Gp:Hid (zb [] l W4):=qI (kA1 Mn.o);have X:=qI (kr (Gv.o.k0 Gp.o) I);have P:p<l.heap.size:=Gv.o.lt;clear z j;go_wp2_with fail;rw [← Mn.o];refine X.o.mono ?_;rintro e w5 ⟨rfl,n,f⟩;have Jq:=qI n;have x:=qI (f.heap Yr.o (by simp;omega));have Jt:Hid (zb [p] l w5):=qI ((Gp.o.mono (Y:=[p]) Wz).trans' f);have Mo:=qI (Gj.o.trans' Jt.o);have l0:=za (o:=0) x.o rfl;have l1:=za (o:=1) x.o rfl;have l2:=za (o:=2) x.o rfl;have l3:=za (o:=3) x.o rfl;have l4:=za (o:=4) x.o rfl;clear n f;have Gb:=qI (Gi.o.kept Mo.o (by have:=U.o;simp;omega));obtain⟨⟨d0,d1,d2,d3,d4⟩,f0,f1,f2,f3,f4⟩:=Gb.o.facts;go_wp2_with fail;obtain⟨WF,e⟩:=XF (yf w5 w.heap.size (.int .i64 y) (.int .i64 F) (.string A) (.slice B t c5) (.slice m u E));obtain⟨KF,y0,y1,y2,y3,y4⟩:=Gb.o.stored e;unfold yf at e;rw [← e];exact bodyPost_ret (v:=.agg #[.int .i64 y,.int .i64 F,.string A,.slice B t c5,.slice m u E]) (by simp [results,results74,go_sem,y0,y1,y2,y3,y4]) rfl (Jr.o _ (Jq.o.kept KF (by have:=U.o;simp;omega)) ((Jt.o.mono (Y:=[p,w.heap.size]) Wz).trans KF (fun i M=>by simp at M;exact .inl (by simp [M]))))
end
theorem pvalue_known:∀ (d:Nat),d≤100→qu d:=by
 intro d;induction d with
 | zero=>
  intro hd w p S X b hc a f;cases X with
  | inl x=>exact K3 hd b a
  | inr y=>
   obtain⟨s,c⟩:=y;by_cases e:yu (zo s)=true
   ·by_cases hm:4096<c+1;·exact zaL hd e hm hc b a
    ·exact pvalue_deep e hm hc b a
   ·exact zat hd (by simpa using e) b a
 | succ d IH=>
  intro hd w p S X b hc a f;cases X with
  | inl x=>exact K3 hd b a
  | inr y=>
   obtain⟨s,c⟩:=y;by_cases e:yu (zo s)=true
   ·by_cases hm:4096<c+1;·exact zaL hd e hm hc b a
    ·rw [show ((d+1:Nat):Int)=(d:Int)+1 from by omega];exact pvalue_read Ws (by exact @IH Ws) f e hm hc b a
   ·exact zat hd (by simpa using e) b a
def AnsV (d p:Nat)(S:ByteArray)(Z:PX)(Bc:Nat)(cs:List Value)(w':World):Prop:=
 match Z with
 | .inl x=>QS w' p S 4097 (.inl x)
 | .inr (s,c)=>match zl d s c with
  | .inl x=>QS w' p S 4097 (.inl x)
  | .inr (v,r,c')=>QS w' p S 4096 (.inr (r,c'))∧yC d Bc w' cs v
theorem qval_any {d p:Nat}{S:ByteArray}{w:World}{Z:PX}(b:kP d)(h:QS w p S 4096 Z)(a:S.size≤262144) : Calls prog 82 #[.pointer (some ⟨p,0,none⟩),.int .i64 d] w fun e w'=>∃ cs:List Value,e = .returned (.agg cs.toArray)∧jY cs∧zb [p] w w'∧AnsV d p S Z w.heap.size cs w':=by
 match Z,h with
 | .inl x,h=>exact (qvalue_bad h a d).mono fun e w' ⟨h1,h2,h3⟩=>⟨[.int .i64 0,.int .i64 0,.string ⟨#[]⟩,.slice none 0 0,.slice none 0 0],h1,⟨_,_,_,_,_,_,_,_,_,rfl⟩,h3,h2⟩
 | .inr (s,c),h=>exact b h a
def bM {α:Type}(l:List (ByteArray×α))(K:ByteArray)(Y:PX):PX:=if l.any (fun q=>decide (q.1=K))=true then bh 53 Y else Y
theorem failX_twice (e e':Int)(Y:PX):bh e (bh e' Y)=bh e' Y:=by cases Y <;> rfl
theorem dupX_snoc_eq {α:Type}{l:List (ByteArray×α)}{q:ByteArray×α}(h:q.1=K):bM (l++[q]) K Y=bh 53 (bM l K Y):=by
 unfold bM;rw [List.any_append];have:[q].any (fun q=>decide (q.1=K))=true:=by simp [h]
 rw [this,Bool.or_true,XK rfl];split;·rw [failX_twice]
 ·rfl
theorem dupX_snoc_ne {α:Type}{l:List (ByteArray×α)}{q:ByteArray×α}(h:q.1≠K):bM (l++[q]) K Y=bM l K Y:=by
 unfold bM;rw [List.any_append];have:[q].any (fun q=>decide (q.1=K))=false:=by simp [h]
 rw [this,Bool.or_false]
theorem pair_state {d:Nat}(s:List UInt8)(c:Nat)(acc:List (ByteArray×V d)) : (∃ x,Zk [58] (xg (bM acc (zw (bo (.inr (zo s,c)))) (Zb (.inr (zo s,c))))) = .inl x∧zO (zl d) s c acc = .inl x)∨∃ s2,Zk [58] (xg (bM acc (zw (bo (.inr (zo s,c)))) (Zb (.inr (zo s,c))))) = .inr (s2,c)∧zO (zl d) s c acc=(match zl d s2 c with | .inl e=>.inl e | .inr (v,r,c')=>.inr (acc++[(zw (bo (.inr (zo s,c))),v)],r,c')):=by
 unfold zO;cases f:xJ (zo s) with
 | inl e=>rw [(bC f).1];refine .inl ⟨e,?_,rfl⟩;unfold bM;split <;> rfl
 | inr y=>
  obtain⟨k,r⟩:=y;rw [(vg f).1,(vg f).2];by_cases b:acc.any (fun p=>decide (p.1=zw k))=true;·refine .inl ⟨53,?_,XK b⟩;unfold bM;rw [XK b];rfl
  ·have h:bM acc (zw k) (.inr (r,c)) = .inr (r,c):=by unfold bM;rw [XJ b]
   rw [h,show xg (.inr (r,c)) = .inr (zo r,c) from rfl];simp only;rw [XJ b];by_cases a:(zo r).head? = some 58
   ·refine .inr ⟨(zo r).tail,?_,by
     rw [XK a];first
     | done
     | (cases zl d (zo r).tail c <;> rfl)⟩
    rw [QQ (by rw [vj,XT a])];show (Sum.inr ((zo r).drop 1,c):PX)=_;rw [List.drop_one]
   ·exact .inl ⟨50,Zr (by rw [vj,XO a]),XJ a⟩
structure QM (W:World)(bv p d:Nat)(acc:List (ByteArray×V d))(w:World)(vm:Value)(mcs:List (ByteArray×List Value)):Prop where
 kept:zb [p,bv] W w
 blk:w.heap[bv]? = some (.cells (xD 6 0 ⟨#[]⟩ (.slice none 0 0) vm) 25 (0,0))
 row:w.ownsRow W.heap.size 41 6 vm acc.length (yM mcs)
 all:zL (YQ (Rep d (fun g=>W.heap.size≤g∧vm.ownBlock≠some g) w)) mcs acc
section
variable {W w w' : World} {bv p d : Nat}
theorem QM.step {acc:List (ByteArray×V d)}{vm:Value}{mcs:List (ByteArray×List Value)}(h:QM W bv p d acc w vm mcs)(hp:p<W.heap.size)(hv:p≠bv)(k:zb [p] w w'):QM W bv p d acc w' vm mcs:=
 ⟨h.kept.trans k (fun i b=>by simp at b;exact .inl (by simp [b])),k.heap h.blk (by simpa using hv.symm),zk h.row k (fun g e a=>by simp at a;have:=(h.row.lt g e).1;omega),h.all.mono fun _ _ _ r=>⟨r.1,r.2.move k (fun g _ q=>⟨fun a=>by simp at a;omega,q⟩)⟩⟩
theorem QM.snoc {acc:List (ByteArray×V d)}{vm b:Value}{mcs:List (ByteArray×List Value)}{w5 w6 k:World}{cs:List Value}{v:V d}{K:ByteArray}{Bc:Nat}(h:QM W bv p d acc w vm mcs)(hp:p<W.heap.size)(hv:bv<W.heap.size)(z:zb [p,bv] W k)(n:k.heap[bv]? = some (.cells (xD 6 0 ⟨#[]⟩ (.slice none 0 0) b) 25 (0,0)))(t:zb [p] w w5)(s:zb vm.ownBlock.toList w5 w6)(u:zb [bv] w6 k)(f:b.ownBlock=vm.ownBlock∨b.ownBlock=some w5.heap.size)(m:k.ownsRow W.heap.size 41 6 b (acc.length+1) (yM mcs++(.string K::cs)))(l:Rep d (fun i=>Bc≤i) w5 cs v)(B:w.heap.size≤Bc):QM W bv p d (acc++[(K,v)]) k b (mcs++[(K,cs)]):=by
 have C:=h.kept.size;have A:=t.size;have x:yM (mcs++[(K,cs)])=yM mcs++(.string K::cs):=by unfold yM;rw [List.flatMap_append];simp [xA]
 refine⟨z,n,by rw [XM,x];exact m,zL.snoc (h.all.mono fun c y _ r=>⟨r.1,?_⟩) ⟨rfl,?_⟩⟩
 ·refine ((r.2.move (T:=fun i=>W.heap.size≤i∧vm.ownBlock≠some i∧i<w.heap.size) t (fun i j q=>⟨fun a=>by simp at a;omega,q.1,q.2,j⟩)).move (T:=fun i=>W.heap.size≤i∧vm.ownBlock≠some i∧i<w.heap.size) s (fun i j q=>⟨fun a=>q.2.1 (XD a),q⟩)).move u (fun i j q=>⟨fun a=>by simp at a;omega,q.1,fun a=>?_⟩);rcases f with e | e
  ·exact q.2.1 (e.symm.trans a)
  ·rw [e] at a;injection a with a;omega
 ·refine (l.move (T:=fun i=>Bc≤i∧i<w5.heap.size) s (fun i j q=>⟨fun a=>?_,q,j⟩)).move u (fun i j q=>⟨fun a=>by simp at a;omega,Ws,fun a=>?_⟩);·have:=(h.row.lt i (XD a)).2;omega
  ·rcases f with e | e;·have:=(h.row.lt i (e.symm.trans a)).2;omega
   ·rw [e] at a;injection a with a;omega
theorem QM.key {acc:List (ByteArray×V d)}{f:Option Addr}{m:Nat}{mcs:List (ByteArray×List Value)}(h:QM W bv p d acc w (.slice f acc.length m) mcs){k:Nat}(b:k<acc.length):∃ g o,f=some ⟨g,o,none⟩∧w.cell? ⟨g,o+k*6,none⟩=some (.string acc[k].1):=by
 have a:k<mcs.length:=by rw [h.all.1];exact b
 have i:=h.all.2 k _ _ (XN a) (XN b);have h6:∀ c,c∈mcs.map xA→c.length=6:=by intro c hc;obtain⟨q,j,rfl⟩:=Xm.1 hc;obtain⟨y,-,l⟩:=h.all.mem_left j;show (Value.string q.1::q.2).length=6;rw [XP,l.2.len]
 have hc:(yM mcs)[k*6+0]? = (xA mcs[k])[0]?:=by rw [qi,jb (mcs.map xA) k 0 h6 (by simpa using a) Wo,uJ]
 rcases (Slc.of_row h.row).2 with ⟨-,h0⟩ | ⟨h0,-⟩ | ⟨g,o,cap,e,-,-,hrow⟩;·omega
 ·omega
 ·simp only [XU] at e;refine⟨g,o,e.1,hrow.cells (k*6+0) _ ?_⟩;rw [hc,← i.1];rfl
end
section
variable {w : World} {p d : Nat} {S : ByteArray} {s : List UInt8} {c f : Nat}
theorem qpairs_any (aI:kP d)(hd:d≤100)(hs:QS w p S 4096 (.inr (s,c)))(hS:S.size≤262144)(hf:s.length<f) : Calls prog 132 #[.pointer (some ⟨p,0,none⟩),.int .i64 d] w fun e w'=>K8 d (YL (ya (zO (zl d)) 125 f s c [])) p S w e w':=by
 have IH:=@qI (kP d) (by exact @aI);obtain⟨M,Gc⟩:=XE ((w.alloc (.cells #[.int .i64 0,.int .i64 0,.string ⟨#[]⟩,.slice none 0 0,.slice none 0 0] 25)).alloc (.cells #[.int .i64 6,.int .i64 0,.string ⟨#[]⟩,.slice none 0 0,.slice none 0 0] 25));have Gm:Hid (M.heap.size=w.heap.size+2):=qI (by rw [Gc.o];simp);have Ge:Hid (zb [] w M):=qI (kA2 Gc.o);have Ga:Hid (p<w.heap.size):=qI hs.lt;have Gi:Hid (xX M w.heap.size):=qI (by rw [Gc.o];exact ((zb.refl [] _).alloc _).heap (zd rfl) Wz);have Ys:Hid (M.heap[w.heap.size+1]? = some (.cells (xD 6 0 ⟨#[]⟩ (.slice none 0 0) (.slice none 0 0)) 25 (0,0))):=qI (by rw [Gc.o];exact zd Wz);have Yt:Hid (QM M (w.heap.size+1) p d [] M (.slice none 0 0) []):=qI ⟨Wd,Ys.o,World.ownsRow_nil _ _ _ _,zL.nil _⟩;have CB:=qI (qL (hs.k0 Ge.o) hS);rw [show xg (.inr (s,c)) = .inr (zo s,c) from rfl] at CB;have Gw:Hid (S.size≤262144):=qI hS;have l:Hid (p≠w.heap.size+1∧p<M.heap.size∧w.heap.size+1<M.heap.size):=qI (by have z:=Ga.o;have h2:=Gm.o;omega);have HF:=qI hf;have bb:(d:Int)≤100:=Ws;obtain⟨R,hR⟩:∃ R,ya (zO (zl d)) 125 f s c []=R:=⟨_,rfl⟩;rw [hR];have Yb:=qI hR;clear hs hf hS aI hd hR;go_enter func132,ntmps132;go_wp2_with fail;rw [← Gc.o];refine CB.o.mono ?_;rintro e w1 ⟨rfl,a6,a2⟩;have Dl:=qI a6;have Gg:=qI a2;have Yc:=qI (Yt.o.step l.o.2.1 l.o.1 a2);have CW:=qI (yT a6 Gw.o ⟨#[125]⟩ Wo);rw [show (⟨#[125]⟩:ByteArray).data.toList=[125] from rfl,(zx 125 (zo s) c).1] at CW;clear a6 a2;by_cases h0:(zo s).head? = some 125
 ·have Gx:Hid (YL R = .inr ((⟨6,0,⟨#[]⟩,[],[]⟩:VS (V d)),(zo s).tail,c)):=qI (by rw [← Yb.o];unfold ya;rw [XK h0];rfl);rw [XT h0,(zx 125 (zo s) c).2.1 h0] at CW;clear h0;go_wp2_with fail;refine CW.o.mono ?_;rintro e w2 ⟨rfl,aw,aq⟩;have Ju:=qI aw;have Me:=qI (Yc.o.step l.o.2.1 l.o.1 aq);have Gz:=qI Me.o.kept;have P:=qI Me.o.blk;have Je:Hid (∀ WF,zb [w.heap.size] w2 WF→yC (d+1) w.heap.size WF [.int .i64 6,.int .i64 0,.string ⟨#[]⟩,.slice none 0 0,.slice none 0 0] (⟨6,0,⟨#[]⟩,[],[]⟩:VS (V d))):=qI (fun WF _=>⟨_,_,[],[],rfl,World.ownsRow_nil _ _ _ _,zL.nil _,World.ownsRow_nil _ _ _ _,zL.nil _,rfl,rfl⟩);clear aw aq;have x0:=za (o:=0) (v:=.int .i64 6) P.o rfl;have x1:=za (o:=1) (v:=.int .i64 0) P.o rfl;have x2:=za (o:=2) (v:=.string ⟨#[]⟩) P.o rfl;have x3:=za (o:=3) (v:=.slice none 0 0) P.o rfl;have x4:=za (o:=4) (v:=.slice none 0 0) P.o rfl;have Gb:=qI (Gi.o.kept Gz.o (by have z:=Ga.o;have h2:=Gm.o;simp;omega));obtain⟨⟨d0,d1,d2,d3,d4⟩,f0,f1,f2,f3,f4⟩:=Gb.o.facts;go_wp2_with fail;obtain⟨WF,e⟩:=XF (yf w2 w.heap.size (.int .i64 6) (.int .i64 0) (.string ⟨#[]⟩) (.slice none 0 0) (.slice none 0 0));obtain⟨KF,y0,y1,y2,y3,y4⟩:=Gb.o.stored e;unfold yf at e;rw [← e];have KK:zb [p] w WF:=by have z:=Ga.o;have h2:=Gm.o;exact ((Ge.o.mono (Y:=[p]) Wz).trans Gz.o (fun i m=>by simp at m;rcases m with h | h;exact .inl (by simp [h]);exact .inr Ws)).trans KF (fun i m=>by simp at m;exact .inr Ws)
  have I:yC (d+1) w.heap.size WF [.int .i64 6,.int .i64 0,.string ⟨#[]⟩,.slice none 0 0,.slice none 0 0] (⟨6,0,⟨#[]⟩,[],[]⟩:VS (V d)):=Je.o _ KF
  exact bodyPost_ret (v:=.agg #[.int .i64 6,.int .i64 0,.string ⟨#[]⟩,.slice none 0 0,.slice none 0 0]) (by simp [results,results132,go_sem,y0,y1,y2,y3,y4]) rfl
   (jD (cs:=[.int .i64 6,.int .i64 0,.string ⟨#[]⟩,.slice none 0 0,.slice none 0 0]) Gx.o ⟨_,_,_,_,_,_,_,_,_,rfl⟩ KK (Ju.o.kept KF (by have z:=Ga.o;simp;omega)) I)
 have Yu:Hid (QX (zO (zl d)) 125 R (zo s) c []):=qI ⟨f,by have:=qQ s;have:=HF.o;omega,by rw [← Yb.o];unfold ya;rw [XJ h0]⟩;rw [XO h0,(zx 125 (zo s) c).2.2 h0] at CW;clear h0;go_wp2_with fail;refine CW.o.mono ?_;rintro e w2 ⟨rfl,aw,aq⟩;have Yv:=qI aw;have Me:=qI (Yc.o.step l.o.2.1 l.o.1 aq);clear aw aq;go_wp2_with fail;go_loopw [6,7,8] (fun _ _ _ wr=>(∃ (s':List UInt8) (H:Nat) (acc:List (ByteArray×V d)) (vm:Value) (mcs:List (ByteArray×List Value)),QS wr p S 4096 (.inr (s',H))∧acc.length≤H∧QX (zO (zl d)) 125 R s' H acc∧QM M (w.heap.size+1) p d acc wr vm mcs)∨∃ (x:Int) (ka:Option Addr) (kn kc:Nat),QS wr p S 4097 (.inl x)∧R = .inl x∧zb [p,w.heap.size+1] M wr∧wr.heap[w.heap.size+1]? = some (.cells (xD 6 0 ⟨#[]⟩ (.slice none 0 0) (.slice ka kn kc)) 25 (0,0))) (fun _ _ _ wr=>zbZ S p wr);case atStart=>exact .inl ⟨_,_,[],_,_,Yv.o,XB,Yu.o,Me.o⟩
 case round=>
  rcases hrel with ⟨s',H,acc,vl,mcs,hq,aD,aJ,hj⟩ | ⟨x,ka,kn,kc,hq,ap,aC,hb⟩;rotate_left
  ·obtain⟨i,ci,z,m,hc,h2,h3⟩:=hq.open_bad;obtain⟨c0,c1,c2,c3,fz⟩:=z.cells;obtain⟨g1,g2⟩:=zq (a:=x) (b:=0) Ws;have Ju:=qI hq;have Gz:=qI aC;have P:=qI hb;have Gx:Hid (YL R = .inl x):=qI (by rw [ap];rfl);clear hq aC hb ap z m hc h2 h3 fz c0 c1 c3;have x0:=za (o:=0) (v:=.int .i64 6) P.o rfl;have x1:=za (o:=1) (v:=.int .i64 0) P.o rfl;have x2:=za (o:=2) (v:=.string ⟨#[]⟩) P.o rfl;have x3:=za (o:=3) (v:=.slice none 0 0) P.o rfl;have x4:=za (o:=4) (v:=.slice ka kn kc) P.o rfl;have Gb:=qI (Gi.o.kept Gz.o (by have z:=Ga.o;have h2:=Gm.o;simp;omega));obtain⟨⟨d0,d1,d2,d3,d4⟩,f0,f1,f2,f3,f4⟩:=Gb.o.facts;go_wp2_with fail;obtain⟨WF,e⟩:=XF (yf wr w.heap.size (.int .i64 6) (.int .i64 0) (.string ⟨#[]⟩) (.slice none 0 0) (.slice ka kn kc));obtain⟨KF,y0,y1,y2,y3,y4⟩:=Gb.o.stored e;unfold yf at e;rw [← e];have KK:zb [p] w WF:=by have z:=Ga.o;have h2:=Gm.o;exact ((Ge.o.mono (Y:=[p]) Wz).trans Gz.o (fun i m=>by simp at m;rcases m with h | h;exact .inl (by simp [h]);exact .inr Ws)).trans KF (fun i m=>by simp at m;exact .inr Ws)
   exact bodyPost_ret (v:=.agg #[.int .i64 6,.int .i64 0,.string ⟨#[]⟩,.slice none 0 0,.slice ka kn kc]) (by simp [results,results132,go_sem,y0,y1,y2,y3,y4]) rfl
    (QP (cs:=[.int .i64 6,.int .i64 0,.string ⟨#[]⟩,.slice none 0 0,.slice ka kn kc]) Gx.o ⟨_,_,_,_,_,_,_,_,_,rfl⟩ KK (Ju.o.kept KF (by have z:=Ga.o;simp;omega)))
  obtain⟨ak,ck,rfl,-,-⟩:=(Slc.of_row hj.row).form;have HM:=qI (jK hq);obtain⟨i,z,m,hc,hr⟩:=hq.open_ok;obtain⟨c0,c1,c2,c3,fz⟩:=z.cells;have HQ:=qI hq;have HJ:=qI hj;have Gu:=qI aJ;have Jv:Hid (acc.length≤H∧H≤4096):=qI ⟨aD,hc⟩;have aG:=qI (qL hq Gw.o);rw [show xg (.inr (s',H)) = .inr (zo s',H) from rfl] at aG;clear hq hj aJ z m hc hr fz c0 c1 c3 aD;go_wp2_with fail;clear c2;refine aG.o.mono ?_;rintro e w3 ⟨rfl,ay,a7⟩;have Dm:=qI ay;have Yw:=qI (HJ.o.step l.o.2.1 l.o.1 a7);have Gh:=qI a7;have aE:=qI (K2 ay Gw.o);obtain⟨i0,z,m,hc,hr⟩:=ay.open_ok;obtain⟨c0,c1,c2,c3,fz⟩:=z.cells;have Yx:Hid (i0≤S.size):=qI m;obtain⟨A,hK⟩:∃ A,zw (bo (.inr (zo s',H)))=A:=⟨_,rfl⟩;obtain⟨Y0,aL⟩:∃ Y0,Zb (.inr (zo s',H))=Y0:=⟨_,rfl⟩;have a3:=pair_state (d:=d) s' H acc;rw [hK,aL] at aE a3;have Yy:=qI a3;clear ay a7 z m hc hr fz c0 c2 c3 hK aL a3;go_wp2_with fail;clear c1;refine aE.o.mono ?_;rintro e w4 ⟨rfl,aO,a1⟩;have Yz:=qI aO;have Da:=qI (Yw.o.step l.o.2.1 l.o.1 a1);have Gj:=qI (Gh.o.trans' a1);have ba:(acc.length:Int)≤4096:=XC Jv.o;clear aO a1;go_wp2_with fail;go_loopw [8] (fun ii wi=>∃ J:Nat,ii = .int .i64 (J:Int)∧J≤acc.length∧QS wi p S 4096 (bM (acc.take J) A Y0)∧QM M (w.heap.size+1) p d acc wi (.slice ak acc.length ck) mcs∧zb [p] wr wi) (fun ii _=>acc.length-(intOf ii).toNat);case atStart=>exact⟨0,rfl,XB,Yz.o,Da.o,Gj.o⟩
  case round=>
   obtain⟨J,rfl,a0,aF,aB,aR⟩:=hrel;have Mp:=qI aF;have Mf:=qI aB;have Mq:=qI aR;have x4:=za (o:=4) (v:=.slice ak acc.length ck) aB.blk rfl;have aQ:(J:Int)≤acc.length:=Ws;clear aF aB aR;by_cases aj:J<acc.length
   ·have aZ:(J:Int)<acc.length:=by omega
    have Mg:=qI aj;obtain⟨g,o,rfl,af⟩:=Mf.o.key aj;have Mh:Hid (acc.take (J+1)=acc.take J++[acc[J]]):=qI (XZ aj);by_cases he:acc[J].1=A;·obtain⟨g1,g2⟩:=jv he;have Mr:Hid (bM (acc.take (J+1)) A Y0=bh 53 (bM (acc.take J) A Y0)):=qI (by rw [Mh.o];exact dupX_snoc_eq he);have CF:=qI (xH Mp.o i0 53 Yx.o Wo Wo);rw [← Mr.o] at CF;clear he a0 Mh;revert af g1 g2;generalize acc[J].1=kx;intro af g1 g2;clear aj;go_wp2_with fail;refine CF.o.mono ?_;rintro e w5 ⟨rfl,aM,a9⟩;have Db:=qI (Mf.o.step l.o.2.1 l.o.1 a9);have Dc:=qI aM;have Gp:=qI (Mq.o.trans' a9);clear aM a9;go_wp2;case roundEnd=>exact⟨⟨J+1,by go_num,Mg.o,Dc.o,Db.o,Gp.o⟩,by have:=Mg.o;simp [intOf];omega⟩
    ·obtain⟨g1,g2⟩:=k7 he;have Mr:Hid (bM (acc.take (J+1)) A Y0=bM (acc.take J) A Y0):=qI (by rw [Mh.o];exact dupX_snoc_ne he);clear he a0 Mh;revert af g1 g2;generalize acc[J].1=kx;intro af g1 g2;clear aj;go_wp2;case roundEnd=>exact⟨⟨J+1,by go_num,Mg.o,by rw [Mr.o];exact Mp.o,Mf.o,Mq.o⟩,by have:=Mg.o;simp [intOf];omega⟩
   ·obtain rfl:J=acc.length:=by omega
    have Dd:Hid (QS wr p S 4096 (bM acc A Y0)):=qI (by have h9:=Mp.o;rw [Xw] at h9;exact h9);have aK:¬ ((acc.length:Int)<acc.length):=Ws;have aU:=qI (qL Dd.o Gw.o);clear aj a0 aQ;go_wp2_with fail;clear x4 aK;refine aU.o.mono ?_;rintro e w6 ⟨rfl,aA,W⟩;have Yd:=qI (Mf.o.step l.o.2.1 l.o.1 W);have Dn:=qI aA;have Jt:=qI (Mq.o.trans' W);have ar:=qI (yT aA Gw.o ⟨#[58]⟩ Wo);rw [show (⟨#[58]⟩:ByteArray).data.toList=[58] from rfl] at ar;clear aA W;obtain⟨Z,hZ⟩:∃ Z,Zk [58] (xg (bM acc A Y0))=Z:=⟨_,rfl⟩;have De:Hid ((∃ x,Z = .inl x∧zO (zl d) s' H acc = .inl x)∨∃ s2,Z = .inr (s2,H)∧zO (zl d) s' H acc=(match zl d s2 H with | .inl e=>.inl e | .inr (v,r,H)=>.inr (acc++[(A,v)],r,H))):=qI (by rw [← hZ];exact Yy.o);cases hz:kh [58] (xg (bM acc A Y0));case' true=>rw [hz] at ar;have Mi:Hid (Zy [58] (xg (bM acc A Y0))=Z):=qI (by rw [← hZ,QQ hz,vt hz]);clear hz hZ;go_wp2_with fail;refine ar.o.mono ?_;rintro e w7 ⟨rfl,al,ab⟩;rw [Mi.o] at al;have Ye:=qI al;have Jk:=qI (Yd.o.step l.o.2.1 l.o.1 ab);have Mo:=qI (Jt.o.trans' ab);clear al ab;go_wp2_with fail
    case' false=>rw [hz] at ar;have Mi:Hid (bh 50 (Zy [58] (xg (bM acc A Y0)))=Z):=qI (by rw [← hZ,Zr hz,vi hz]);clear hz hZ;go_wp2_with fail;refine ar.o.mono ?_;rintro e w8 ⟨rfl,E,D⟩;obtain⟨i8,c8,e8,z,aS,aX⟩:=E.places;obtain⟨z0,z1,z2,z3,fz⟩:=z.cells;have aN:=qI (xH E i8 50 aS Wo Wo);rw [Mi.o] at aN;have Mj:=qI (Yd.o.step l.o.2.1 l.o.1 D);have Ms:=qI (Jt.o.trans' D);clear E D z aS aX fz z0 z2 z3;go_wp2_with fail;clear z1;refine aN.o.mono ?_;rintro e w7 ⟨rfl,al,ab⟩;have Ye:=qI al;have Jk:=qI (Mj.o.step l.o.2.1 l.o.1 ab);have Mo:=qI (Ms.o.trans' ab);clear al ab;go_wp2_with fail
    all_goals
     clear Mi;have Df:=qI Jk.o.blk;refine zu (n:=11) (fun w':World=>w'.heap[w.heap.size+1]? = some (.cells (xD 6 0 ⟨#[]⟩ (.slice none 0 0) (.slice ak acc.length ck)) 25 (0,0))∧zb [p,w.heap.size+1] M w') 10 Wr Wr ?_;change zT _ _ _ _ _ _ _ _ _ w7.drew;have Gq:Hid (zb [] w7 w7.drew):=qI (zb.refl [] w7).drew;have j:(fun w':World=>w'.heap[w.heap.size+1]? = some (.cells (xD 6 0 ⟨#[]⟩ (.slice none 0 0) (.slice ak acc.length ck)) 25 (0,0))∧zb [p,w.heap.size+1] M w') w7.drew:=⟨Gq.o.heap Df.o Wz,Jk.o.kept.drew⟩;revert j Gq;generalize w7.drew=W3;intro Gq j;refine zF ?_;intro O R hO hR;have N:jA R:=by subst hR;exact fun _ _ _ _ _ h=>h
     refine qT 0 ?_ hO rfl rfl Wr N (fun w aa=>?_) j ?_;rotate_left;·exact zg
     try simp only [XI]
     refine qT 1 ?_ hO rfl rfl Wr N (fun w aa=>?_) j ?_;rotate_left;·have s4:=za (o:=4) (v:=.slice ak acc.length ck) aa.1 rfl;exact zg
     try simp only [XI]
     refine qT 2 ?_ hO rfl rfl Wr N (fun w aa=>?_) j ?_;rotate_left;·exact zg
     try simp only [XI]
     refine qT 3 ?_ hO rfl rfl Wr N (fun w aa=>?_) j ?_;rotate_left;·exact zg
     try simp only [XI]
     refine qT 4 ?_ hO rfl rfl Wr N (fun w aa=>?_) j ?_;rotate_left;·exact zg
     try simp only [XI]
     refine qO 5 hO rfl Wr (fun K hK=>?_);go_simp;refine Calls.mono (qval_any IH.o (Ye.o.k0 Gq.o) Gw.o) ?_;rintro e F ⟨bd,rfl,aY,ai,k⟩;obtain⟨k5,m5,s5,p5,i5,c5,q5,j5,d5,rfl⟩:=aY;have Jw:=qI ai;have Gk:=qI k;have a8:(fun w':World=>w'.heap[w.heap.size+1]? = some (.cells (xD 6 0 ⟨#[]⟩ (.slice none 0 0) (.slice ak acc.length ck)) 25 (0,0))∧zb [p,w.heap.size+1] M w') F:=⟨ai.heap j.1 (by have:=l.o.1;simp;omega),j.2.trans ai (fun i m=>by simp at m;exact .inl (by simp [m]))⟩;refine hK _ _ (.inr a8) ?_;clear hK K;try simp only [XI]
     clear j ai k;have j:=a8;clear a8;have Jx:=qI (zk (zk Jk.o.row Gq.o Wz) Jw.o (fun g hg hx=>by simp at hx;have z:=(Jk.o.row.lt g hg).1;have h2:=l.o.2.1;omega));refine qT 6 ?_ hO rfl rfl Wr N (fun w aa=>?_) j ?_;rotate_left;·exact zg
     try simp only [XI]
     refine qO 7 hO rfl Wr (fun K hK=>?_);go_simp;have a4:(fun w':World=>w'.heap[w.heap.size+1]? = some (.cells (xD 6 0 ⟨#[]⟩ (.slice none 0 0) (.slice ak acc.length ck)) 25 (0,0))∧zb [p,w.heap.size+1] M w') (F.alloc (.cells #[.string A,.int .i64 k5,.int .i64 m5,.string s5,.slice p5 i5 c5,.slice q5 j5 d5] 41)):=⟨((zb.refl [] F).alloc _).heap j.1 Wz,j.2.alloc _⟩;have Jl:Hid (zb [] F (F.alloc (.cells #[.string A,.int .i64 k5,.int .i64 m5,.string s5,.slice p5 i5 c5,.slice q5 j5 d5] 41))):=qI ((zb.refl [] F).alloc _);have Jf:=qI (yE F [.string A,.int .i64 k5,.int .i64 m5,.string s5,.slice p5 i5 c5,.slice q5 j5 d5] 6 1 41 F.heap.size rfl rfl Wo);have Jm:=qI (zk Jx.o Jl.o Wz);refine hK _ _ (.inr a4) ?_;clear hK K;try simp only [XI]
     clear j;have j:=a4;clear a4;revert Jl Jf Jm j;rw [show ([.string A,.int .i64 k5,.int .i64 m5,.string s5,.slice p5 i5 c5,.slice q5 j5 d5]:List Value).toArray=#[.string A,.int .i64 k5,.int .i64 m5,.string s5,.slice p5 i5 c5,.slice q5 j5 d5] from rfl];generalize F.alloc (.cells #[.string A,.int .i64 k5,.int .i64 m5,.string s5,.slice p5 i5 c5,.slice q5 j5 d5] 41)=w5;intro Jl Jf Jm j;refine qO 8 hO rfl Wr (fun K hK=>?_);refine qM za1 Jm.o Jf.o (fun u hu=>by simp only [XY,Xi,uC] at hu;rcases hu with rfl | rfl | rfl | rfl | rfl | rfl <;> rfl) (by have:=Jv.o;simp only [maxLen];omega) (XC Jv.o) j.2.size (.tmp 58) (.tmp 64) rfl rfl rfl ?_;intro b7 d7 ax av W aP;have Ja:=qI av;have Jy:=qI W;have Dg:=qI aP;have az:(fun w':World=>w'.heap[w.heap.size+1]? = some (.cells (xD 6 0 ⟨#[]⟩ (.slice none 0 0) (.slice ak acc.length ck)) 25 (0,0))∧zb [p,w.heap.size+1] M w') ax:=⟨W.heap j.1 (fun hx=>by have z:=(Jm.o.lt _ (XD hx)).1;have h2:=l.o.2.2;omega),j.2.trans W (fun i m=>.inr (Jm.o.lt i (XD m)).1)⟩;refine hK _ _ (.inr az) ?_;clear hK K;try simp only [XI]
     clear j av W aP;have j:=az;have Yf:=qI az;clear az;refine qT 9 ?_ hO rfl rfl Wr N (fun w aa=>?_) j ?_;rotate_left;·exact zg
     try simp only [XI]
     have s3:=za (o:=4) (v:=.slice ak acc.length ck) j.1 rfl;have s4:=zh (o:=4) j.1;refine qO 10 hO rfl Wr (fun K hK=>?_);go_simp;refine hK _ _ (.inl rfl) ?_;clear hK K;try simp only [XI]
     refine zE hO Wr ?_ _;subst hR;try clear N hO O
     clear s3 s4 j;have ag:=ze (i:=4) (v:=.slice b7 (acc.length+1) d7) Yf.o.1 (d:=xD 6 0 ⟨#[]⟩ (.slice none 0 0) (.slice b7 (acc.length+1) d7)) rfl;have ao:=yc ax (w.heap.size+1) 4 (.slice b7 (acc.length+1) d7);revert ag ao;generalize ax.setCell ⟨w.heap.size+1,4,none⟩ (.slice b7 (acc.length+1) d7)=wF;intro ag ao;have Yg:=qI ag;have Mt:=qI ao;have Jz:Hid (zb [p,w.heap.size+1] M wF):=qI (Yf.o.2.trans ao (fun i m=>by simp at m;exact .inl (by simp [m])));clear ag ao;have Mu:Hid (∀ x:PX,∀ B,QS F p S B x→QS wF p S B x):=qI (fun x B h=>((h.k0 Jl.o).kept Jy.o (fun hx=>by have z:=(Jm.o.lt _ (XD hx)).1;have h2:=l.o.2.1;omega)).kept Mt.o (by have:=l.o.1;simp;omega));have aH:(∃ x,QS wF p S 4097 (.inl x)∧R = .inl x)∨∃ v r c2,QS wF p S 4096 (.inr (r,c2))∧zO (zl d) s' H acc = .inr (acc++[(A,v)],r,c2)∧yC d W3.heap.size F [.int .i64 k5,.int .i64 m5,.string s5,.slice p5 i5 c5,.slice q5 j5 d5] v:=by
      have k:=Gk.o;unfold AnsV at k;rcases De.o with ⟨x,hz,C⟩ | ⟨s2,hz,C⟩
      ·rw [hz] at k;exact .inl ⟨x,Mu.o _ _ k,Gu.o.bad C⟩
      ·rw [hz] at k;simp only at k;cases hv:zl d s2 H with
       | inl x=>rw [hv] at k C;exact .inl ⟨x,Mu.o _ _ k,Gu.o.bad C⟩
       | inr y=>obtain⟨v,r,c2⟩:=y;rw [hv] at k C;exact .inr ⟨v,r,c2,Mu.o _ _ k.1,C,k.2⟩
     rcases aH with ⟨x,an,ap⟩ | ⟨v,r,c2,an,ah,I⟩;·have Mv:=qI an;have Ma:=qI ap;have ae:=qI (yT Mv.o Gw.o ⟨#[125]⟩ Wo);clear an ap;go_wp2_with fail;refine ae.o.mono ?_;rintro e w8 ⟨rfl,E,D⟩;have ad:=qI (yT E Gw.o ⟨#[44]⟩ Wo);rw [show kh (⟨#[125]⟩:ByteArray).data.toList (.inl x)=false from rfl];have Ms:=qI D;clear E D;go_wp2_with fail;refine ad.o.mono ?_;rintro e w9 ⟨rfl,G,X⟩;rw [show Zy (⟨#[44]⟩:ByteArray).data.toList (Zy (⟨#[125]⟩:ByteArray).data.toList (.inl x)) = .inl x from rfl] at G;rw [show kh (⟨#[44]⟩:ByteArray).data.toList (Zy (⟨#[125]⟩:ByteArray).data.toList (.inl x))=false from rfl];have Dh:=qI (Ms.o.trans' X);have Di:=qI G;obtain⟨i9,c9,z,au,a5,h2,h3⟩:=G.open_bad;obtain⟨z0,z1,z2,z3,fz⟩:=z.cells;have CF:=qI (xH Di.o i9 50 au Wo Wo);clear G X z au a5 h2 h3 fz;go_wp2_with fail;clear z0 z1 z2 z3;refine CF.o.mono ?_;rintro e aW ⟨rfl,Q,am⟩;go_wp2;case roundEnd=>have hk:=Dh.o.trans' am;exact⟨.inr ⟨x,b7,acc.length+1,d7,Q,Ma.o,Jz.o.trans hk (fun i m=>by simp at m;exact .inl (by simp [m])),hk.heap Yg.o (by have:=l.o.1;simp;omega)⟩,by rw [QB Q,HM.o];omega⟩
     ·have Mv:=qI an;have Jg:=qI ah;have Yh:=qI (zaN ah);have Mw:Hid ((acc++[(A,v)]).length≤c2):=qI ((zam s' H acc (acc++[(A,v)]) r c2 Jv.o.2 ah).2.2 Jv.o.1)
      have Yi:Hid (QM M (w.heap.size+1) p d (acc++[(A,v)]) wF (.slice b7 (acc.length+1) d7) (mcs++[(A,[.int .i64 k5,.int .i64 m5,.string s5,.slice p5 i5 c5,.slice q5 j5 d5])])):=qI (
       QM.snoc (w5:=w5) (w6:=ax) (Bc:=W3.heap.size) Jk.o l.o.2.1 l.o.2.2 Jz.o Yg.o (((Gq.o.mono Wz).trans' Jw.o).then Jl.o) Jy.o Mt.o Dg.o
        (zk Ja.o Mt.o (fun g hg hx=>by simp at hx;have z:=(Ja.o.lt g hg).1;have h2:=l.o.2.2;omega)) (I.rep.k0 Jl.o) Gq.o.size)
      have ae:=qI (yT Mv.o Gw.o ⟨#[125]⟩ Wo);rw [show (⟨#[125]⟩:ByteArray).data.toList=[125] from rfl,(zx 125 r c2).1] at ae;clear an ah I;by_cases U:r.head? = some 125
      ·have Ma:Hid (R = .inr (acc++[(A,v)],r.tail,c2)):=qI (Gu.o.done Jg.o U);rw [XT U,(zx 125 r c2).2.1 U] at ae;clear U;go_wp2_with fail;refine ae.o.mono ?_;rintro e w8 ⟨rfl,E,D⟩;have Ju:=qI E;have Jn:=qI (Yi.o.step l.o.2.1 l.o.1 D);have Gz:=qI Jn.o.kept;have P:=qI Jn.o.blk;have Gx:Hid (YL R = .inr ((⟨6,0,⟨#[]⟩,[],acc++[(A,v)]⟩:VS (V d)),r.tail,c2)):=qI (by rw [Ma.o];rfl);have Je:Hid (∀ WF,zb [w.heap.size] w8 WF→yC (d+1) w.heap.size WF [.int .i64 6,.int .i64 0,.string ⟨#[]⟩,.slice none 0 0,.slice b7 (acc.length+1) d7] (⟨6,0,⟨#[]⟩,[],acc++[(A,v)]⟩:VS (V d))):=qI (fun WF KF=>by
        have hz:=Gm.o;refine⟨_,_,[],mcs++[(A,[.int .i64 k5,.int .i64 m5,.string s5,.slice p5 i5 c5,.slice q5 j5 d5])],rfl,World.ownsRow_nil _ _ _ _,zL.nil _,?_,?_,rfl,rfl⟩;·exact qA (zk Jn.o.row KF (fun g hg hx=>by simp at hx;have:=(Jn.o.row.lt g hg).1;omega)) (fun g hg=>by have:=(Jn.o.row.lt g hg).1;omega)
        ·exact Jn.o.all.mono fun _ _ _ q=>⟨q.1,q.2.move KF (fun g _ h=>⟨fun hx=>by simp at hx;omega,Ws,by simp [Value.ownBlock],h.2⟩)⟩)
       clear E D;have x0:=za (o:=0) (v:=.int .i64 6) P.o rfl;have x1:=za (o:=1) (v:=.int .i64 0) P.o rfl;have x2:=za (o:=2) (v:=.string ⟨#[]⟩) P.o rfl;have x3:=za (o:=3) (v:=.slice none 0 0) P.o rfl;have x4:=za (o:=4) (v:=.slice b7 (acc.length+1) d7) P.o rfl;have Gb:=qI (Gi.o.kept Gz.o (by have z:=Ga.o;have h2:=Gm.o;simp;omega));obtain⟨⟨d0,d1,d2,d3,d4⟩,f0,f1,f2,f3,f4⟩:=Gb.o.facts;go_wp2_with fail;obtain⟨WF,e⟩:=XF (yf w8 w.heap.size (.int .i64 6) (.int .i64 0) (.string ⟨#[]⟩) (.slice none 0 0) (.slice b7 (acc.length+1) d7));obtain⟨KF,y0,y1,y2,y3,y4⟩:=Gb.o.stored e;unfold yf at e;rw [← e];have KK:zb [p] w WF:=by have z:=Ga.o;have h2:=Gm.o;exact ((Ge.o.mono (Y:=[p]) Wz).trans Gz.o (fun i m=>by simp at m;rcases m with h | h;exact .inl (by simp [h]);exact .inr Ws)).trans KF (fun i m=>by simp at m;exact .inr Ws)
       have I:yC (d+1) w.heap.size WF [.int .i64 6,.int .i64 0,.string ⟨#[]⟩,.slice none 0 0,.slice b7 (acc.length+1) d7] (⟨6,0,⟨#[]⟩,[],acc++[(A,v)]⟩:VS (V d)):=Je.o _ KF
       exact bodyPost_ret (v:=.agg #[.int .i64 6,.int .i64 0,.string ⟨#[]⟩,.slice none 0 0,.slice b7 (acc.length+1) d7]) (by simp [results,results132,go_sem,y0,y1,y2,y3,y4]) rfl
        (jD (cs:=[.int .i64 6,.int .i64 0,.string ⟨#[]⟩,.slice none 0 0,.slice b7 (acc.length+1) d7]) Gx.o ⟨_,_,_,_,_,_,_,_,_,rfl⟩ KK (Ju.o.kept KF (by have z:=Ga.o;simp;omega)) I)
      ·rw [XO U,(zx 125 r c2).2.2 U] at ae;have aT:=qI U;clear U;go_wp2_with fail;refine ae.o.mono ?_;rintro e w8 ⟨rfl,E,D⟩;have Mj:=qI (Yi.o.step l.o.2.1 l.o.1 D);have ad:=qI (yT E Gw.o ⟨#[44]⟩ Wo);rw [show (⟨#[44]⟩:ByteArray).data.toList=[44] from rfl,(zx 44 r c2).1] at ad;clear E D;by_cases L:r.head? = some 44
       ·rw [XT L,(zx 44 r c2).2.1 L] at ad;have Mx:=qI (Gu.o.next Jg.o aT.o L Yh.o.1);have Dj:Hid (r.tail.length<s'.length):=qI (by
         have z:=Yh.o.1;cases r with
         | nil=>cases L
         | cons q t=>simp only [XP,uE] at *;omega)
        clear L;go_wp2_with fail;refine ad.o.mono ?_;rintro e w9 ⟨rfl,G,X⟩;go_wp2;case roundEnd=>exact⟨.inl ⟨_,_,_,_,_,G,Mw.o,Mx.o,Mj.o.step l.o.2.1 l.o.1 X⟩,by rw [jK G,HM.o];have:=Dj.o;omega⟩
       ·rw [XO L,(zx 44 r c2).2.2 L] at ad;have Ma:Hid (R = .inl 50):=qI (Gu.o.other Jg.o aT.o L);clear L;go_wp2_with fail;refine ad.o.mono ?_;rintro e w9 ⟨rfl,G,X⟩;have Dk:=qI (Mj.o.step l.o.2.1 l.o.1 X);obtain⟨i9,z,au,a5,aV⟩:=G.open_ok;obtain⟨z0,z1,z2,z3,fz⟩:=z.cells;have CF:=qI (xH G.wide i9 50 au Wo Wo);clear G X z au a5 aV fz;go_wp2_with fail;clear z0 z1 z2 z3;refine CF.o.mono ?_;rintro e aW ⟨rfl,Q,am⟩;have Yj:=qI (Dk.o.step l.o.2.1 l.o.1 am);go_wp2;case roundEnd=>exact⟨.inr ⟨50,b7,acc.length+1,d7,Q,Ma.o,Yj.o.kept,Yj.o.blk⟩,by rw [QB Q,HM.o];omega⟩
end
theorem heads_in (a:UInt8):([34,91,123,45,48,49,50,51,52,53,54,55,56,57]:List UInt8).contains a=decide (a.toNat=34∨a.toNat=91∨a.toNat=123∨a.toNat=45∨(48≤a.toNat∧a.toNat≤57)):=by
 rw [Bool.eq_iff_iff,decide_eq_true_iff,List.contains_iff_mem];simp only [XY,Xi,uC,← UInt8.toNat_inj];simp only [show (34:UInt8).toNat=34 from rfl,show (91:UInt8).toNat=91 from rfl,show (123:UInt8).toNat=123 from rfl,show (45:UInt8).toNat=45 from rfl,show (48:UInt8).toNat=48 from rfl,show (49:UInt8).toNat=49 from rfl,show (50:UInt8).toNat=50 from rfl,show (51:UInt8).toNat=51 from rfl,show (52:UInt8).toNat=52 from rfl,show (53:UInt8).toNat=53 from rfl,show (54:UInt8).toNat=54 from rfl,show (55:UInt8).toNat=55 from rfl,show (56:UInt8).toNat=56 from rfl,show (57:UInt8).toNat=57 from rfl];omega
theorem zbC {b a:UInt8}{W t:List UInt8}(h:a.toNat≠b.toNat):(b::W).isPrefixOf (a::t)=false:=by
 have d:(b == a)=false:=by rw [beq_eq_false_iff_ne];intro e;exact h (by rw [e])
 show (b == a&&W.isPrefixOf t)=false;rw [d];rfl
theorem begins_class (r:List UInt8)(c:Nat):∃ z:Nat,qa (.inr (r,c))=z∧((z=110∧yu r=kE.isPrefixOf r)∨(z=116∧yu r=kA.isPrefixOf r)∨(z=102∧yu r=xO.isPrefixOf r)∨(z=34∧yu r=true)∨(z=91∧yu r=true)∨(z=123∧yu r=true)∨(z=45∧yu r=true)∨((48≤z∧z≤57)∧yu r=true)∨(((z≠110∧z≠116∧z≠102∧z≠34∧z≠91∧z≠123∧z≠45)∧z<48)∧yu r=false)∨(((z≠110∧z≠116∧z≠102∧z≠34∧z≠91∧z≠123∧z≠45)∧57<z)∧yu r=false)):=by
 refine⟨_,rfl,?_⟩;cases r with
 | nil=>exact .inr (.inr (.inr (.inr (.inr (.inr (.inr (.inr (.inl ⟨(by decide:((0≠110∧0≠116∧0≠102∧0≠34∧0≠91∧0≠123∧0≠45)∧0<48)),rfl⟩))))))))
 | cons a t=>
  show (a.toNat=110∧_)∨(a.toNat=116∧_)∨(a.toNat=102∧_)∨(a.toNat=34∧_)∨(a.toNat=91∧_)∨(a.toNat=123∧_)∨(a.toNat=45∧_)∨((48≤a.toNat∧a.toNat≤57)∧_)∨(((a.toNat≠110∧a.toNat≠116∧a.toNat≠102∧a.toNat≠34∧a.toNat≠91∧a.toNat≠123∧a.toNat≠45)∧a.toNat<48)∧_)∨(((a.toNat≠110∧a.toNat≠116∧a.toNat≠102∧a.toNat≠34∧a.toNat≠91∧a.toNat≠123∧a.toNat≠45)∧57<a.toNat)∧_);have d:yu (a::t)=(kE.isPrefixOf (a::t) || kA.isPrefixOf (a::t) || xO.isPrefixOf (a::t) || decide (a.toNat=34∨a.toNat=91∨a.toNat=123∨a.toNat=45∨(48≤a.toNat∧a.toNat≤57))):=by rw [← heads_in];rfl
  have f:a.toNat≠110→kE.isPrefixOf (a::t)=false:=fun h=>zbC h;have k:a.toNat≠116→kA.isPrefixOf (a::t)=false:=fun h=>zbC h;have j:a.toNat≠102→xO.isPrefixOf (a::t)=false:=fun h=>zbC h;have e:¬ (a.toNat=34∨a.toNat=91∨a.toNat=123∨a.toNat=45∨(48≤a.toNat∧a.toNat≤57))→decide (a.toNat=34∨a.toNat=91∨a.toNat=123∨a.toNat=45∨(48≤a.toNat∧a.toNat≤57))=false:=XO;have l:(a.toNat=34∨a.toNat=91∨a.toNat=123∨a.toNat=45∨(48≤a.toNat∧a.toNat≤57))→decide (a.toNat=34∨a.toNat=91∨a.toNat=123∨a.toNat=45∨(48≤a.toNat∧a.toNat≤57))=true:=XT;by_cases b:a.toNat=110;·refine .inl ⟨b,?_⟩;rw [d,k Ws,j Ws,e Ws];simp
  by_cases h2:a.toNat=116;·refine .inr (.inl ⟨h2,?_⟩);rw [d,f b,j Ws,e Ws];simp
  by_cases h3:a.toNat=102;·refine .inr (.inr (.inl ⟨h3,?_⟩));rw [d,f b,k h2,e Ws];simp
  rw [d,f b,k h2,j h3];by_cases i:a.toNat=34∨a.toNat=91∨a.toNat=123∨a.toNat=45∨(48≤a.toNat∧a.toNat≤57)
  ·rw [l i];rcases i with h | h | h | h | h
   ·exact .inr (.inr (.inr (.inl ⟨h,rfl⟩)))
   ·exact .inr (.inr (.inr (.inr (.inl ⟨h,rfl⟩))))
   ·exact .inr (.inr (.inr (.inr (.inr (.inl ⟨h,rfl⟩)))))
   ·exact .inr (.inr (.inr (.inr (.inr (.inr (.inl ⟨h,rfl⟩))))))
   ·exact .inr (.inr (.inr (.inr (.inr (.inr (.inr (.inl ⟨h,rfl⟩)))))))
  ·rw [e i];by_cases m:a.toNat<48;·exact .inr (.inr (.inr (.inr (.inr (.inr (.inr (.inr (.inl ⟨⟨Ws,m⟩,rfl⟩))))))))
   ·exact .inr (.inr (.inr (.inr (.inr (.inr (.inr (.inr (.inr ⟨⟨Ws,Ws⟩,rfl⟩))))))))
theorem next_head (r:List UInt8)(c:Nat)(a:UInt8)(d:a.toNat≠0):r.head? = some a↔qa (.inr (r,c))=a.toNat:=by
 cases r with
 | nil=>exact⟨fun h=>(nomatch h),fun h=>absurd h.symm d⟩
 | cons b t=>show some b=some a↔b.toNat=a.toNat;rw [UInt8.toNat_inj];exact⟨fun h=>by injection h,fun h=>by rw [h]⟩
theorem vC {w a:World}{r:Nat}{f d b2 b3 b:Value}(h:xX w r)(e:a=yf w r f d b2 b3 b):zb [r] w a∧a.heap[r]? = some (.cells #[f,d,b2,b3,b] 25 (0,0)):=Ky h e
def QCut (D:Nat)(s:List UInt8)(c p:Nat)(S:ByteArray)(w:World)(r vb:Nat)(W3 wc:World):Prop:=
 ∃ (k m:Int) (st:ByteArray) (pl:Option Addr) (il cl:Nat) (pm:Option Addr) (im cm:Nat) (X:PX),
  wc.heap[vb]? = some (.cells #[.int .i64 k,.int .i64 m,.string st,.slice pl il cl,.slice pm im cm] 25 (0,0))∧QS wc p S 4097 X∧zb [p,vb] W3 wc ∧
  ∀ WF,QS WF p S 4097 (xg X)→zb [p,r] wc WF→za7 D s c p S w (.returned (.agg #[.int .i64 k,.int .i64 m,.string st,.slice pl il cl,.slice pm im cm])) WF
section
variable {d D p c r vb : Nat} {S : ByteArray} {s : List UInt8} {w w0 w1 wc W3 : World} {k m : Int} {st : ByteArray} {pl pm : Option Addr} {il cl im cm : Nat}
theorem zbk {x:Int}(hv:zl D s c = .inl x)(b:w.heap.size≤r)(d:QS wc p S 4097 (.inl x))(k0:zb [p] w wc)(h:zb [p,vb] W3 wc)(f:wc.heap[vb]? = some (.cells #[.int .i64 k,.int .i64 m,.string st,.slice pl il cl,.slice pm im cm] 25 (0,0))):QCut D s c p S w r vb W3 wc:=by
 refine⟨k,m,st,pl,il,cl,pm,im,cm,.inl x,f,d,h,fun j e h2=>⟨[.int .i64 k,.int .i64 m,.string st,.slice pl il cl,.slice pm im cm],rfl,⟨_,_,_,_,_,_,_,_,_,rfl⟩,k0.trans h2 (fun i a=>by simp at a;rcases a with rfl | rfl;exact .inl Wz;exact .inr b),?_⟩⟩;rw [hv];exact e
theorem Z7 {R:Sum Int (VS (V d)×List UInt8×Nat)}(h:K8 d R p S w0 (.returned (.agg #[.int .i64 k,.int .i64 m,.string st,.slice pl il cl,.slice pm im cm])) w1)(hv:zl (d+1) s c=match (generalizing:=false) R with | .inl e=>.inl e | .inr (v,q,c')=>.inr (v,zo q,c'))(k0:zb [p] w w0)(hp:p<w.heap.size)(F:w.heap.size≤r)(C:r<vb)(B:vb<w0.heap.size)(E:zb [p,vb] W3 w1)(j:zb [vb] w1 wc)(u:wc.heap[vb]? = some (.cells #[.int .i64 k,.int .i64 m,.string st,.slice pl il cl,.slice pm im cm] 25 (0,0))):QCut (d+1) s c p S w r vb W3 wc:=by
 obtain⟨cs,t,z,D,l⟩:=h;have f:zb [p,vb] W3 wc:=E.trans j (fun i b=>by simp at b;exact .inl (by simp [b]));have ka:∀ a,zb [p,r] wc a→zb [p,vb,r] w1 a:=fun a h2=>(j.mono Wz).trans h2 (fun i b=>by simp at b;rcases b with rfl | rfl <;> exact .inl Wz)
 have kb:∀ a,zb [p,r] wc a→zb [p] w a:=fun a h2=>(k0.trans D (fun i b=>.inl b)).trans (ka a h2) (fun i b=>by simp at b;rcases b with rfl | rfl | rfl;exact .inl Wz;exact .inr Ws;exact .inr F);cases R with
 | inl x=>refine⟨k,m,st,pl,il,cl,pm,im,cm,.inl x,u,QS.kept l j (by simp;omega),f,fun a n h2=>⟨cs,t,z,kb a h2,?_⟩⟩;rw [hv];exact n
 | inr y=>obtain⟨v,q,c'⟩:=y;refine⟨k,m,st,pl,il,cl,pm,im,cm,.inr (q,c'),u,(QS.kept l.1 j (by simp;omega)).wide,f,fun a n h2=>⟨cs,t,z,kb a h2,?_⟩⟩;rw [hv];refine⟨QS.narrow n ?_,l.2.move (ka a h2) (fun g A=>by simp at A;omega) Ws⟩;obtain⟨i,-,-,G,-⟩:=QS.open_ok l.1;exact G
end
end Go.Proofs.YtjccecajigmfkaaGreatDoor

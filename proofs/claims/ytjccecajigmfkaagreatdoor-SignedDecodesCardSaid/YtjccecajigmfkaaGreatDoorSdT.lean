/- Parts of one proof, merged: XPG. -/
import Derived.Test.YtjccecajigmfkaaGreatDoorSdN
set_option linter.all false
set_option maxHeartbeats 12800000
set_option maxRecDepth 10000
namespace Go.Proofs.YtjccecajigmfkaaGreatDoor
open Go.Proofs.Tryz
open Go.RowKit
variable {r:List UInt8}{w':World}
theorem eat_minus (r:List UInt8)(c:Nat):kh [45] (.inr (r,c))=Z5 r:=vj 45 r c
theorem eatX_minus (r:List UInt8)(c:Nat):Zy [45] (.inr (r,c)) = .inr (jf r,c):=by
 unfold Zy jf;rw [eat_minus];cases Z5 r with
 | true=>rw [XK rfl,XK rfl];show (Sum.inr (r.drop 1,c):PX)=_;rw [List.drop_one]
 | false=>rw [XJ Wo,XJ Wo]
def JY (r:List UInt8)(c:Nat)(p:Nat)(S:ByteArray)(B:Nat)(e:Ending)(w':World):Prop:=
 match kJ r with
 | .inl x=>e = .returned (.agg (yR 0 0 ⟨#[]⟩))∧PS w' p S B (.inl x)
 | .inr (n,r')=>e = .returned (.agg (yR 3 n ⟨#[]⟩))∧PS w' p S B (.inr (r',c))
theorem Kl {c p B:Nat}{S:ByteArray}{x:Int}(h:kJ r = .inl x)(h2:PS w' p S B (.inl x)):JY r c p S B (.returned (.agg (yR 0 0 ⟨#[]⟩))) w':=by unfold JY;rw [h];exact⟨rfl,h2⟩
theorem numAns_ok {a:List UInt8}{c p B:Nat}{S:ByteArray}{n:Int}(h:kJ r = .inr (n,a))(h2:PS w' p S B (.inr (a,c))):JY r c p S B (.returned (.agg (yR 3 n ⟨#[]⟩))) w':=by unfold JY;rw [h];exact⟨rfl,h2⟩
def badD (ds:List UInt8)(mm:Bool):Bool:=match ds with | []=>true | d::t=>decide (d=48)&&(mm || decide (t≠[]))
theorem num_bad {r:List UInt8}(h:badD (qn r) (Z5 r)=true):kJ r = .inl 50:=by
 cases hd:qn r with
 | nil=>exact num_none hd
 | cons d t=>rw [hd] at h;simp only [badD,XR,uW,Xa] at h;obtain⟨rfl,h2⟩:=h;exact zbw hd h2
theorem num_ok {r:List UInt8}(h:badD (qn r) (Z5 r)=false):kJ r=if jI ((jf r).drop (qn r).length) [46,101,69]=true then .inl 51 else if 9007199254740991<zU (qn r) then .inl 52 else .inr (if Z5 r=true then -(zU (qn r):Int) else zU (qn r),(jf r).drop (qn r).length):=by
 cases hd:qn r with
 | nil=>rw [hd] at h;cases h
 | cons d t=>
  rw [hd] at h;have a:=num_fine hd (fun q=>by
   simp only [badD,Bool.and_eq_false_iff,Bool.or_eq_false_iff,ul] at h;rcases h with h | h
   ·exact h q.1
   ·rcases q.2 with q | q;·rw [h.1] at q;cases q
    ·exact h.2 q)
  rw [hd] at a;exact a
section
variable {w : World} {p B : Nat} {S : ByteArray} {x : PX}
theorem pnumber_any {r:List UInt8}{c:Nat}(h:PS w p S B (.inr (r,c)))(hS:S.size≤262144) : Calls prog 179 #[.pointer (some ⟨p,0,none⟩)] w fun e w'=>JY r c p S B e w'∧zb [p] w w':=by
 obtain⟨W0,Gi⟩:=XE (w.alloc (.cells #[.int .i64 0,.int .i64 0,.string ⟨#[]⟩,.slice none 0 0,.slice none 0 0] 25));have Ge:Hid (zb [] w W0):=qI (kA1 Gi.o);have I:Hid (xX W0 w.heap.size):=qI (by rw [Gi.o];exact xT w);have u:Hid (w.heap.size ∉ [p]):=qI (by have:=h.lt;simp;omega);have Gy:=qI (h.k0 Ge.o);have CE:=qI (xY Gy.o hS ⟨#[45]⟩);rw [show (⟨#[45]⟩:ByteArray).data.toList=[45] from rfl,eat_minus,eatX_minus] at CE;obtain⟨i,h1,C,hc,hr⟩:=(h.k0 Ge.o).open_ok;have aq:=xf hr C;obtain⟨c0,c1,c2,c3,fz⟩:=h1.cells;have CR:Hid (∀ w' (y:PX) (l:List UInt8),y = .inr (l,c)→PS w' p S B y→_):=qI (fun w' y l (e:y = .inr (l,c)) (k:PS w' p S B y)=>Zs (r:=l) (c:=c) (by rw [← e];exact k) hS);have CU:Hid (∀ w',PS w' p S B (.inr (jf r,c))→_):=qI (fun w' (k:PS w' p S B (.inr (jf r,c)))=>prun_any k hS);obtain⟨t1,t2⟩:=run_take (jf r);change (jf r).take (qn r).length=qn r at t1;have Gk:Hid ((jf r).drop (qn r).length=(jf r).dropWhile yh):=qI t2;have ah:(qn r).length≤(jf r).length:=by have:=congrArg List.length t1;rw [Xe] at this;have e:(qn r).length=((jf r).takeWhile yh).length:=rfl;omega
 have a1:(jf r).length≤r.length:=by unfold jf;split <;> simp
 have hX:(zw (jf r)).extract 0 (qn r).length=zw (qn r):=Q6 (by rw [ZI (zw (jf r)) 0 (qn r).length (by rw [zZ];exact ah),zJ,zJ];exact t1);have ay:((qn r).length:Int)≤(zw (jf r)).size:=by rw [zZ];omega
 have Je:=qI (numD_dig r);have Gf:Hid ((qn r).length≤(jf r).length):=qI ah;have Gh:Hid ((zw (qn r)).size=(qn r).length∧(qn r).length≤262144):=qI ⟨zZ _,Ws⟩;have ai:=Gh.o;have CS:Hid (∀ w',_):=qI (fun w'=>psum_any (zw (qn r)) Ws (by rw [zJ];exact numD_dig r) w');rw [zJ] at CS;clear h h1 fz t1 t2 hr ah a1 aq c0 c2 c3 ai;have al:Hid (∀ w',PS w' p S B (.inr (jf r,c))→Calls prog 226 #[.pointer (some ⟨p,0,none⟩)] w' fun e w2=>e = .returned (.int .i64 ((qn r).length:Nat))∧zb [] w' w2):=qI CU.o;clear CU;have Gg:=qI (And.intro (@num_bad r) (@num_ok r));rw [Gi.o] at c1;go_enter func179,ntmps179;go_wp2_with fail;rw [← Gi.o];refine CE.o.mono ?_;rintro e w1 ⟨rfl,aw,ap⟩;have Gl:=qI aw;have Gz:=qI ap;clear aw ap c1;go_wp2_with fail;refine (CR.o w1 _ _ rfl Gl.o).mono ?_;rintro e w2 ⟨rfl,av⟩;have Gm:=qI av;clear av;go_wp2_with fail;refine (al.o w2 (Gl.o.k0 Gm.o)).mono ?_;rintro e w3 ⟨rfl,aa⟩;have Gt:=qI ((Gl.o.k0 Gm.o).k0 aa);have Gu:=qI ((Gz.o.then Gm.o).then aa);clear aa;go_upto_region 4 with fail;clear hX ay al CE;obtain⟨j,Gj⟩:=XE (qn r);obtain⟨mm,Gn⟩:=XE (Z5 r);rw [← Gj.o,← Gn.o];rw [← Gj.o] at CS Gh Gf;rw [← Gj.o,← Gn.o] at Gg;go_cut [34] from 20 to 34 (fun t wc=>t = .bool (badD j mm)∧w3=wc);case first=>
  clear CS CR Gg Gf Gk Gj Gn;cases j with
  | nil=>have a8:zw []=⟨#[]⟩:=rfl;go_wp2;go_meet;exact⟨rfl,rfl⟩
  | cons d t=>
   have au:=Gh.o;rw [XP] at au;have an:zw (d::t)≠⟨#[]⟩:=fun e=>by have W:=congrArg (fun s:ByteArray=>s.data.toList) e;simp only [zJ] at W;cases W
   obtain⟨g1,g2⟩:=ZK an;have a2:0<(zw (d::t)).size:=Ws;have h0:(zw (d::t))[0]'a2=d:=rfl;have a3:(0:Int)<(zw (d::t)).size:=Ws;have a7:((zw (d::t)).size:Int)=(t.length:Int)+1:=Ws;clear an au Gh;by_cases af:d=48
   ·subst af;cases mm with
    | true=>go_wp2;go_meet;exact⟨by simp [badD],rfl⟩
    | false=>
     cases t with
     | nil=>go_wp2;go_meet;exact⟨by simp [badD],rfl⟩
     | cons a q=>have aA:(1:Int)<(q.length:Int)+1+1:=Ws;go_wp2;go_meet;exact⟨by simp [badD],rfl⟩
   ·have a5:d.toNat≠48:=fun q=>af (UInt8.toNat_inj.1 q);obtain⟨k1,k2⟩:=zq (a:=(d.toNat:Int)) (b:=48) Ws;go_wp2;go_meet;exact⟨by simp [badD,af],rfl⟩
 case rest=>
  obtain⟨rfl,rfl⟩:=hcut;cases G:badD j mm with
  | true=>have U:=qI (Gg.o.1 G);clear G Gg CS CR Gk;go_wp2_with fail;refine (qC Gt.o i 50 C Wo Wo).mono ?_;rintro e M ⟨rfl,n,f⟩;have N:=qI n;have m:=qI (Gu.o.trans' f);clear n f;obtain⟨⟨d0,d1,d2,d3,d4⟩,f0,f1,f2,f3,f4⟩:=(I.o.kept m.o u.o).facts;go_wp2_with fail;obtain⟨WF,e⟩:=XF (yf M w.heap.size (.int .i64 0) (.int .i64 0) (.string ⟨#[]⟩) (.slice none 0 0) (.slice none 0 0));obtain⟨A,O,K,R,L,J⟩:=(I.o.kept m.o u.o).stored e;unfold yf at e;rw [← e];exact bodyPost_ret (v:=.agg #[.int .i64 0,.int .i64 0,.string ⟨#[]⟩,.slice none 0 0,.slice none 0 0]) (by simp [results,results179,go_sem,O,K,R,L,J]) rfl ⟨Kl U.o (N.o.kept A (fun x=>u.o (by simp at x;simp [x]))),((Ge.o.mono Wz).trans' m.o).trans A (fun i C=>by simp at C;exact .inr Ws)⟩
  | false=>
   have HF:=qI (Gg.o.2 G);have ai:((zw (j)).size:Int)=(j).length:=XC Gh.o.1;obtain⟨H,Q,ar,ao,Z⟩:=Gt.o.open_ok;have ax:=xf Z ar;have Gp:=qI Q;have e1:=za (o:=1) (v:=.int .i64 H) Q rfl;have e2:=zh (o:=1) Q;have X:H+(j).length≤S.size:=XC Gf.o;have Ja:=qI X;have Jb:=qI Z;have Jc:Hid (H≤S.size∧c≤B):=qI ⟨ar,ao⟩;have am:(H:Int)+((j).length:Int)≤262144:=Ws;clear Q Z ax X ao G Gg Gk;go_wp2_with fail;have E:PS (w3.setCell ⟨p,1,none⟩ (.int .i64 ((H+(j).length:Nat)))) p S B (.inr ((jf r).drop (j).length,c)):=by have W:=PS.good (Gp.o.set1 (H+(j).length)) Ja.o Jc.o.2;rw [← uD,Jb.o] at W;exact W
   rw [show ((H+(j).length:Nat):Int)=(H:Int)+((j).length:Int) by omega] at E;have P:=(Gu.o).trans' (yc w3 p 1 (.int .i64 ((H:Int)+((j).length:Int))));clear e1 e2;revert E P HF;generalize w3.setCell ⟨p,1,none⟩ (.int .i64 ((H:Int)+((j).length:Int)))=w4;generalize (jf r).drop (j).length=rest;intro HF E P;have Gv:=qI E;have Jd:=qI P;clear E P ai am;refine (CR.o w4 _ _ rfl Gv.o).mono ?_;rintro e w5 ⟨rfl,ag⟩;have Gq:=qI (Gv.o.k0 ag);have Gw:=qI (Jd.o.then ag);clear ag;go_upto_region 9 with fail;go_cut [57] from 50 to 57 (fun t wc=>t = .bool (jI rest [46,101,69])∧w5=wc);case first=>
    cases rest with
    | nil=>rw [show zw []=⟨#[]⟩ from rfl];go_wp2;go_meet;exact⟨rfl,rfl⟩
    | cons a q=>
     have Y:zw (a::q)≠⟨#[]⟩:=fun e=>by have W:=congrArg (fun s:ByteArray=>s.data.toList) e;simp only [zJ] at W;cases W
     obtain⟨j1,j2⟩:=ZK Y;have a0:0<(zw (a::q)).size:=by rw [zZ];simp
     have ha:(zw (a::q))[0]'a0=a:=rfl;have a4:(0:Int)<(zw (a::q)).size:=Ws;have CI:Hid (∀ w',_):=qI (fun w'=>vR ⟨#[46,101,69]⟩ (a.toNat:Int) w');rw [show ((a.toNat:Int)).toNat.toUInt8=a by simp,show (⟨#[46,101,69]⟩:ByteArray).data.toList=[46,101,69] from rfl] at CI;have ad:=Qi [46,101,69] a;have ak:decide (0≤Lib.indexByte [46,101,69] a)=([46,101,69]:List UInt8).contains a:=by
      cases ae:([46,101,69]:List UInt8).contains a with
      | true=>exact XT (ad.2 ae)
      | false=>exact XO (fun h=>by rw [ad.1 h] at ae;cases ae)
     clear Y ad;revert CI ak;generalize Lib.indexByte [46,101,69] a=z;intro CI ak;go_wp2_with (go_at_call 104;refine (CI.o _).mono ?_;rintro e w6 ⟨rfl,rfl⟩);go_meet;exact⟨by simp [jI],rfl⟩
   case rest=>
    obtain⟨rfl,rfl⟩:=hcut;cases hh:jI rest [46,101,69] with
    | true=>have U:Hid (kJ r = .inl 51):=qI (by rw [HF.o,hh];rfl);clear hh;obtain⟨i5,c5,e5,aj,az,a9⟩:=Gq.o.places;have l1:=za (o:=1) (v:=.int .i64 i5) aj rfl;clear aj;go_wp2_with fail;refine (qC Gq.o i5 51 az Wo Wo).mono ?_;rintro e M ⟨rfl,n,f⟩;have N:=qI n;have m:=qI (Gw.o.trans' f);clear n f;obtain⟨⟨d0,d1,d2,d3,d4⟩,f0,f1,f2,f3,f4⟩:=(I.o.kept m.o u.o).facts;go_wp2_with fail;obtain⟨WF,e⟩:=XF (yf M w.heap.size (.int .i64 0) (.int .i64 0) (.string ⟨#[]⟩) (.slice none 0 0) (.slice none 0 0));obtain⟨A,O,K,R,L,J⟩:=(I.o.kept m.o u.o).stored e;unfold yf at e;rw [← e];exact bodyPost_ret (v:=.agg #[.int .i64 0,.int .i64 0,.string ⟨#[]⟩,.slice none 0 0,.slice none 0 0]) (by simp [results,results179,go_sem,O,K,R,L,J]) rfl ⟨Kl U.o (N.o.kept A (fun x=>u.o (by simp at x;simp [x]))),((Ge.o.mono Wz).trans' m.o).trans A (fun i C=>by simp at C;exact .inr Ws)⟩
    | false=>
     rw [hh,XJ Wo] at HF;clear hh;go_wp2_with fail;refine (CS.o _).mono ?_;rintro e w7 ⟨F,ab⟩;have Gr:=qI (Gq.o.k0 ab);have Gs:=qI (Gw.o.then ab);clear ab;unfold zak at F;by_cases G:9007199254740991<zU (j);·have U:Hid (kJ r = .inl 52):=qI (by rw [HF.o,XK G]);rw [XK G] at F;subst F;go_wp2_with fail;refine (qC Gr.o i 52 C Wo Wo).mono ?_;rintro e M ⟨rfl,n,f⟩;have N:=qI n;have m:=qI (Gs.o.trans' f);clear n f;obtain⟨⟨d0,d1,d2,d3,d4⟩,f0,f1,f2,f3,f4⟩:=(I.o.kept m.o u.o).facts;go_wp2_with fail;obtain⟨WF,e⟩:=XF (yf M w.heap.size (.int .i64 0) (.int .i64 0) (.string ⟨#[]⟩) (.slice none 0 0) (.slice none 0 0));obtain⟨A,O,K,R,L,J⟩:=(I.o.kept m.o u.o).stored e;unfold yf at e;rw [← e];exact bodyPost_ret (v:=.agg #[.int .i64 0,.int .i64 0,.string ⟨#[]⟩,.slice none 0 0,.slice none 0 0]) (by simp [results,results179,go_sem,O,K,R,L,J]) rfl ⟨Kl U.o (N.o.kept A (fun x=>u.o (by simp at x;simp [x]))),((Ge.o.mono Wz).trans' m.o).trans A (fun i C=>by simp at C;exact .inr Ws)⟩
     ·rw [XJ G] at F;have a6:(zU (j):Int)≤9007199254740991:=Ws;subst F;have Gx:Hid (kJ r = .inr (if mm=true then -(zU (j):Int) else zU (j),rest)):=qI (by rw [HF.o,XJ G]);clear HF G;generalize zU (j)=D at *;cases mm with
      | true=>have U:Hid (kJ r = .inr (-(D:Int),rest)):=qI (by rw [Gx.o];rfl);go_wp2_with fail;refine (vint_any (-(D:Int)) _).mono ?_;rintro e M ⟨rfl,f⟩;unfold yR;have N:=qI (Gr.o.k0 f);have m:=qI (Gs.o.then f);clear f;obtain⟨⟨d0,d1,d2,d3,d4⟩,f0,f1,f2,f3,f4⟩:=(I.o.kept m.o u.o).facts;go_wp2_with fail;obtain⟨WF,e⟩:=XF (yf M w.heap.size (.int .i64 3) (.int .i64 (-(D:Int))) (.string ⟨#[]⟩) (.slice none 0 0) (.slice none 0 0));obtain⟨A,O,K,R,L,J⟩:=(I.o.kept m.o u.o).stored e;unfold yf at e;rw [← e];exact bodyPost_ret (v:=.agg #[.int .i64 3,.int .i64 (-(D:Int)),.string ⟨#[]⟩,.slice none 0 0,.slice none 0 0]) (by simp [results,results179,go_sem,O,K,R,L,J]) rfl ⟨numAns_ok U.o (N.o.kept A (fun x=>u.o (by simp at x;simp [x]))),((Ge.o.mono Wz).trans' m.o).trans A (fun i C=>by simp at C;exact .inr Ws)⟩
      | false=>have U:Hid (kJ r = .inr ((D:Int),rest)):=qI (by rw [Gx.o];rfl);go_wp2_with fail;refine (vint_any (D:Int) _).mono ?_;rintro e M ⟨rfl,f⟩;unfold yR;have N:=qI (Gr.o.k0 f);have m:=qI (Gs.o.then f);clear f;obtain⟨⟨d0,d1,d2,d3,d4⟩,f0,f1,f2,f3,f4⟩:=(I.o.kept m.o u.o).facts;go_wp2_with fail;obtain⟨WF,e⟩:=XF (yf M w.heap.size (.int .i64 3) (.int .i64 (D:Int)) (.string ⟨#[]⟩) (.slice none 0 0) (.slice none 0 0));obtain⟨A,O,K,R,L,J⟩:=(I.o.kept m.o u.o).stored e;unfold yf at e;rw [← e];exact bodyPost_ret (v:=.agg #[.int .i64 3,.int .i64 (D:Int),.string ⟨#[]⟩,.slice none 0 0,.slice none 0 0]) (by simp [results,results179,go_sem,O,K,R,L,J]) rfl ⟨numAns_ok U.o (N.o.kept A (fun x=>u.o (by simp at x;simp [x]))),((Ge.o.mono Wz).trans' m.o).trans A (fun i C=>by simp at C;exact .inr Ws)⟩
end
end Go.Proofs.YtjccecajigmfkaaGreatDoor

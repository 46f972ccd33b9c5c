/- Parts of one proof, merged: XHL XHM XHN. -/
import Derived.Test.YtjccecajigmfkaaGreatDoorSdAM
import Derived.Test.YtjccecajigmfkaaGreatDoorSdAG
set_option linter.all false
set_option maxHeartbeats 12800000
set_option maxRecDepth 100000
namespace Go.Proofs.YtjccecajigmfkaaGreatDoor
open Go.Proofs.Tryz
open Go.RowKit
attribute [local go_sem] Oper.semAt_some
variable {S:Nat→Prop}{a:Option Addr}{b:List UInt8}{l:List yg}{n:Nat}
def yF (y:V 10):yg×Bool:=
 let t1:=jC (n:=9) y (decide ((y:VS (V 9)).kind≠6)) QW 64
 let t2:=jC (n:=9) y t1.2 Q5 1048576
 (⟨t1.1,t2.1⟩,t2.2)
def fstE (x:V 12):Option (V 11)×Bool:=zbr (n:=11) x (decide ((x:VS (V 11)).kind≠6)) JL
def JI (x:V 12):Option (V 11)×Bool:=bu (n:=11) x (fstE x).2 bN 16
def itE (x:V 12):List (V 10):=kN (JI x).1
def ZN (x:V 12):V 11:=((fstE x).1.getD (Qw:VS (V 10)):VS (V 10))
def qF (x:V 12):List yg:=(itE x).map fun y=>(yF y).1
def bK (x:V 12)(k:Nat):Bool:=(JI x).2 || ((itE x).take k).any fun y=>(yF y).2
def Y8 (b:List UInt8):Sum Int (V 11×List yg):=
 match yH b with
 | .inl x=>.inl x
 | .inr x=>if bK x (itE x).length=false∧yd 11 (ZN x) (qF x)=true then .inr (ZN x,qF x) else .inl 130
def qs (b:List UInt8)(e:Ending)(w':World):Prop:=
 match Y8 b with
 | .inl x=>e = .returned (.tuple #[.agg #[.int .i64 0,.int .i64 0,.string ⟨#[]⟩,.slice none 0 0,.slice none 0 0,.slice none 0 0],.int .i64 x])
 | .inr (v,l)=>∃ kd nm st p1 i1 d1 p2 i2 d2 a c,e = .returned (.tuple #[.agg #[.int .i64 kd,.int .i64 nm,.string st,.slice p1 i1 d1,.slice p2 i2 d2,.slice a l.length c],.int .i64 0])∧Env 11 (fun _=>True) w' [.int .i64 kd,.int .i64 nm,.string st,.slice p1 i1 d1,.slice p2 i2 d2] v a c l
theorem itE_len (x:V 12):(itE x).length≤16:=flist_le (n:=10) x _ _ 16
theorem itE_small {x:V 12}(h:zP 12 x):∀ y,y∈itE x→zP 10 y:=fun y a=>(flist_small (n:=10) h y a).1
theorem badE_succ (x:V 12)(k:Nat)(a:k<(itE x).length):bK x (k+1)=(bK x k || (yF (itE x)[k]).2):=by
 unfold bK
 rw [XZ a,List.any_append,← Bool.or_assoc]
 simp
theorem rows_succ (x:V 12)(k:Nat)(a:k<(itE x).length):kI (((itE x).take (k+1)).map fun y=>(yF y).1)=kI (((itE x).take k).map fun y=>(yF y).1)++[.string (yF (itE x)[k]).1.id,.string (yF (itE x)[k]).1.sig]:=by
 rw [XZ a,Xc,List.map_singleton,zbJ]
 rfl
theorem Given.repIn {w a:World}{e:Ending}{r:Option (V (n+1))}(h:Given (n+1) w a e r):∃ k m s p i c q j d,e = .returned (.agg #[.int .i64 k,.int .i64 m,.string s,.slice p i c,.slice q j d])∧Rep (n+1) (fun g=>w.heap.size≤g∧g<a.heap.size) a [.int .i64 k,.int .i64 m,.string s,.slice p i c,.slice q j d] (r.getD (Qw:VS (V n)):VS (V n)):=by
 cases r with
 | none=>exact⟨_,_,_,_,_,_,_,_,_,h,K0 _ _⟩
 | some x=>
  obtain⟨k,m,s,p,i,c,q,j,d,b,h2⟩:=vE h
  exact⟨k,m,s,p,i,c,q,j,d,b,h2.rep⟩
theorem jG.atR {w:World}{c:Nat}{xs:List (V n)}{lcs:List (List Value)}(h:jG S w a c xs lcs){j:Nat}(y:j<xs.length):∃ g o s p cl q m d,a=some ⟨g,o,none⟩∧w.cell? ⟨g,o+j*5,none⟩=some (.int .i64 (qo n xs[j]))∧w.cell? ⟨g,o+j*5+1,none⟩=some (.int .i64 (zai n xs[j]))∧w.cell? ⟨g,o+j*5+2,none⟩=some (.string s)∧w.cell? ⟨g,o+j*5+3,none⟩=some (.slice p (vI n xs[j]) cl)∧w.cell? ⟨g,o+j*5+4,none⟩=some (.slice q m d)∧Rep n S w [.int .i64 (qo n xs[j]),.int .i64 (zai n xs[j]),.string s,.slice p (vI n xs[j]) cl,.slice q m d] xs[j]:=by
 obtain⟨v,h2,h3⟩:=h
 have u:=h2.1
 have l:j<lcs.length:=Ws
 have t:=h2.2 j _ _ (XN l) (XN y)
 obtain⟨s,p,cl,q,m,d,e,z⟩:=t.gone
 have f:∀ c,c∈lcs→c.length=5:=by
  intro c hc
  obtain⟨i,r,rfl⟩:=uI hc
  exact (h2.2 i _ _ (XN r) (XN Ws)).len
 rcases v.2 with ⟨_,x⟩ | ⟨x,_⟩ | ⟨g,o,cap,k,_,_,b⟩
 ·omega
 ·omega
 simp only [XU] at k
 have hc:∀ i,i<5→lcs.flatten[j*5+i]? = lcs[j][i]?:=fun i r=>jb lcs j i f l r
 rw [e] at hc t
 refine⟨g,o,s,p,cl,q,m,d,k.1,b.cells (j*5+0) _ (hc 0 Wo),?_,?_,?_,?_,t⟩
 all_goals rw [uS]
 ·exact b.cells (j*5+1) _ (hc 1 Wo)
 ·exact b.cells (j*5+2) _ (hc 2 Wo)
 ·exact b.cells (j*5+3) _ (hc 3 Wo)
 ·exact b.cells (j*5+4) _ (hc 4 Wo)
section
variable {w : World} {g : Nat} {bad : Bool}
theorem cellOk_any (c5:w.cell? ⟨g,5,none⟩=some (.bool bad)):Calls prog 81 #[.pointer (some ⟨g,0,none⟩)] w fun e w'=>e = .returned (.bool (!bad))∧w=w':=by
 cases bad
 all_goals
  go_enter func81,ntmps81
  go_wp2_with fail
  go_ret
  exact⟨rfl,rfl⟩
theorem cellDone_any (c5:w.cell? ⟨g,5,none⟩=some (.bool bad)):Calls prog 35 #[.pointer (some ⟨g,0,none⟩)] w fun e w'=>e = .returned (.int .i64 (doneZ bad))∧w=w':=by
 have a:=qI (cellOk_any c5)
 clear c5
 cases bad
 all_goals
  go_enter func35,ntmps35
  go_wp2_with (go_at_call 81;refine a.o.mono ?_;rintro e w1 ⟨rfl,rfl⟩)
  go_ret
  exact⟨rfl,rfl⟩
end
theorem Fld.bad5 {w:World}{g:Nat}{v:VS (V n)}{bad:Bool}(h:Fld n w g v bad):∃ cs,w.heap[g]? = some (.cells cs 114 (0,0))∧cs[5]? = some (.bool bad):=by
 obtain⟨p,c,q,d,a,-⟩:=h
 exact⟨_,a,rfl⟩
theorem Kc (y:V 10):(yF y).1.id.size≤64∧(yF y).1.sig.size≤1048576:=⟨ftext_le (n:=9) y _ _ 64,ftext_le (n:=9) y _ _ 1048576⟩
theorem doneZ_no:doneZ false=0:=rfl
theorem doneZ_yes:doneZ true=130:=rfl
theorem zau {w:World}{g:Nat}{t:Nat}(h:w.heap[g]? = some (.cells #[.int .i64 0,.int .i64 0,.string ⟨#[]⟩,.slice none 0 0,.slice none 0 0,.slice none 0 0] t (0,0))):∀ j,w.frozen? ⟨g,j,none⟩=false:=fun j=>zh h
set_option maxHeartbeats 25600000 in
theorem Ze {w:World}{c:Nat}(O:zm w (.slice a b.length c) b)(ht:xS w) : Calls prog 10 #[.slice a b.length c] w fun e w'=>qs b e w'∧zb [] w w':=by
 obtain⟨W1,Gf⟩:=XE (w.alloc (.cells #[.int .i64 0,.int .i64 0,.string ⟨#[]⟩,.slice none 0 0,.slice none 0 0,.slice none 0 0] 28));have Gg:Hid (zb [] w W1):=qI (kA1 Gf.o);have Js:Hid (kO W1 w.heap.size 0 0 ⟨#[]⟩ (.slice none 0 0) (.slice none 0 0) (.slice none 0 0)):=qI (by rw [Gf.o];exact zd rfl);have Ja:Hid (W1.heap.size=w.heap.size+1):=qI (by rw [Gf.o];simp);have CP:=qI (parse_any (O.k0 Gg.o) (ht.k0 Gg.o));have HT:=qI (ht.k0 Gg.o);generalize b.length=bn at CP ⊢;clear O ht;have Gj:Hid (∀ x,Y8 b = .inl x→∀ e w',e = .returned (.tuple #[.agg #[.int .i64 0,.int .i64 0,.string ⟨#[]⟩,.slice none 0 0,.slice none 0 0,.slice none 0 0],.int .i64 x])→qs b e w'):=qI (fun x h e w' h2=>by unfold qs;rw [h];exact h2);have Gk:Hid (∀ v l,Y8 b = .inr (v,l)→∀ kd B st E D A p2 u C a c w',Env 11 (fun _=>True) w' [.int .i64 kd,.int .i64 B,.string st,.slice E D A,.slice p2 u C] v a c l→qs b (.returned (.tuple #[.agg #[.int .i64 kd,.int .i64 B,.string st,.slice E D A,.slice p2 u C,.slice a l.length c],.int .i64 0])) w'):=qI (fun v l h kd B st E D A p2 u C a c w' h2=>by unfold qs;rw [h];exact⟨_,_,_,_,_,_,_,_,_,_,_,rfl,h2⟩);generalize qs b=ANS at Gj Gk ⊢;have HD:Hid (Y8 b=match yH b with
  | .inl x=>.inl x
  | .inr x=>if bK x (itE x).length=false∧yd 11 (ZN x) (qF x)=true then .inr (ZN x,qF x) else .inl 130):=qI rfl
 have Gv:Hid (∀ x,yH b = .inr x→zP 12 x):=qI (fun x h=>⟨by have:=(bS h).2.1;omega,by have:=(bS h).2.2;omega⟩);unfold kj at CP;generalize aF:Y8 b=DB at HD Gj Gk;generalize yH b=PB at CP HD Gv;clear aF;go_enter func10,ntmps10;go_upto_region 1 with fail;rw [← Gf.o];cases PB with
 | inl x=>simp only at CP HD;obtain rfl:=HD.o;have aM:True:=trivial;go_upto_region 2 with (go_at_call 30;refine CP.o.mono ?_;rintro e w2 ⟨⟨H,n,hn,rfl⟩,t⟩;have HX:=qI H;have Gx:=qI t;clear H t;unfold zeroA);have aE:¬ x=0:=XC HX.o.1;have aK:decide (x=0)=false:=XO aE;have Gs:=qI ((Gx.o.alloc (.cells #[.int .i64 0,.int .i64 0,.string ⟨#[]⟩,.slice none 0 0,.slice none 0 0] 25)).heap Js.o Wz);have rz:=zau Gs.o;obtain⟨r0,r1,r2,r3,r4,r5⟩:=yz Gs.o;go_wp2_with fail;change bodyPost _ _ _ _ _ (Za (w2.alloc (.cells #[.int .i64 0,.int .i64 0,.string ⟨#[]⟩,.slice none 0 0,.slice none 0 0] 25)) w.heap.size (.int .i64 0) (.int .i64 0) (.string ⟨#[]⟩) (.slice none 0 0) (.slice none 0 0) (.slice none 0 0));have P:=kW (w2.alloc (.cells #[.int .i64 0,.int .i64 0,.string ⟨#[]⟩,.slice none 0 0,.slice none 0 0] 25)) w.heap.size (.int .i64 0) (.int .i64 0) (.string ⟨#[]⟩) (.slice none 0 0) (.slice none 0 0) (.slice none 0 0);have X:=vT Gs.o (.int .i64 0) (.int .i64 0) (.string ⟨#[]⟩) (.slice none 0 0) (.slice none 0 0) (.slice none 0 0);generalize Za (w2.alloc (.cells #[.int .i64 0,.int .i64 0,.string ⟨#[]⟩,.slice none 0 0,.slice none 0 0] 25)) w.heap.size (.int .i64 0) (.int .i64 0) (.string ⟨#[]⟩) (.slice none 0 0) (.slice none 0 0) (.slice none 0 0)=WF at P X;obtain⟨y0,y1,y2,y3,y4,y5⟩:=yz X;refine bodyPost_ret (v:=.tuple #[.agg #[.int .i64 0,.int .i64 0,.string ⟨#[]⟩,.slice none 0 0,.slice none 0 0,.slice none 0 0],.int .i64 x]) (by simp [results,results10,go_sem,y0,y1,y2,y3,y4,y5]) rfl ?_;exact⟨Gj.o x rfl _ _ rfl,((Gg.o.then Gx.o).alloc _).trans P (by intro i f;rw [XS] at f;subst f;exact .inr (XA))⟩
 | inr x=>
  simp only at CP HD;have Jl:Hid (zP 12 x):=qI (Gv.o x rfl);clear Gv;have Yk:Hid (W1.heap.size=w.heap.size+1):=Ja;go_upto_region 2 with (go_at_call 30;refine CP.o.mono ?_;rintro e w2 ⟨⟨cs,aI,rfl,ho⟩,t⟩;obtain⟨kp,np,sp,pp,ip,dp,qp,jp,ep,rfl⟩:=aI;have HO:=qI ho.rep;have Gx:=qI t;clear ho t);obtain⟨W3,Gn⟩:=XE (w2.alloc (.cells #[.int .i64 kp,.int .i64 np,.string sp,.slice pp ip dp,.slice qp jp ep] 25));have Jb:Hid (zb [] W1 W3):=qI (by rw [Gn.o];exact Gx.o.alloc _);have Jm:Hid (W3.heap[w2.heap.size]? = some (.cells #[.int .i64 kp,.int .i64 np,.string sp,.slice pp ip dp,.slice qp jp ep] 25 (0,0))):=qI (by rw [Gn.o];exact zd rfl);have Md:Hid (Rep 12 (fun g=>W1.heap.size≤g) W3 [.int .i64 kp,.int .i64 np,.string sp,.slice pp ip dp,.slice qp jp ep] x):=qI (by rw [Gn.o];exact HO.o.k0 ((zb.refl [] _).alloc _));have Jc:=qI Jb.o.size;refine yZ Gn.o ?_;have CO:=qI (zcr (n:=11) Md.o);obtain⟨b0,b1,b2,b3,b4⟩:=yD Jm.o;clear HO Md Jm Gn CP;go_upto_region 5 with (go_at_call 31;refine CO.o.mono ?_;rintro e w4 ⟨⟨gf,a0,rfl,al⟩,a7⟩;have Ms:=qI a0;have Jt:=qI al;have Me:=qI (Jb.o.then a7);clear a0 al a7 b0 b1 b2 b3 b4);have CM:Hid (Calls prog 32 #[.pointer (some ⟨gf,0,none⟩),.string JL] w4 fun e w'=>Given 11 w4 w' e (fstE x).1∧Fld 11 w' gf x (fstE x).2∧zb [gf] w4 w'):=qI (fmap_any Jt.o Jl.o JL);have Mt:=qI Jt.o.lt;go_upto_region 6 with (go_at_call 32;refine CM.o.mono ?_;rintro e w5 ⟨Z,ao,a2⟩;obtain⟨kd,B,st,E,D,A,p2,u,C,rfl,hr5⟩:=Given.repIn (n:=10) Z;have Mf:=qI hr5;have Mg:=qI ao;have Jn:=qI a2;clear Z hr5 ao a2);obtain⟨W6,Jd⟩:=XE (w5.alloc (.cells #[.int .i64 kd,.int .i64 B,.string st,.slice E D A,.slice p2 u C,.slice none 0 0] 28));have Gp:Hid (zb [] w5 W6):=qI (kA1 Jd.o);have Ju:Hid (kO W6 w5.heap.size kd B st (.slice E D A) (.slice p2 u C) (.slice none 0 0)):=qI (by rw [Jd.o];exact zd rfl);have Mh:=qI (Mf.o.k0 Gp.o);have Mi:=qI (Mg.o.k0 Gp.o);have Mu:Hid (W6.heap.size=w5.heap.size+1):=qI (by rw [Jd.o];simp);refine yZ Jd.o ?_;have Gq:Hid (w.heap.size<gf∧gf<w4.heap.size∧w4.heap.size≤w5.heap.size):=qI ⟨by have:=Ja.o;have:=Jc.o;have:=Ms.o;omega,Mt.o,Jn.o.size⟩;obtain⟨G,Je⟩:=XE w5.heap.size;have Mj:Hid (zb [] W1 W6):=qI ((Me.o.trans Jn.o (by intro i f;rw [XS] at f;subst f;exact .inr (XH Ja.o Gq.o))).then Gp.o);rw [← Je.o] at Ju ⊢;have CL:Hid (Calls prog 33 #[.pointer (some ⟨gf,0,none⟩),.string bN,.int .i64 16] W6 fun e w'=>KH 11 W6 w' e (JI x).1∧Fld 11 w' gf x (JI x).2∧zb [gf] W6 w'):=qI (flist_any Mi.o Jl.o bN 16);obtain⟨N,HN⟩:=XE ((itE x).length);have aA:(N:Int)≤16:=by have q:=itE_len x;have:=HN.o;omega
  have Jv:=qI aA;clear Mf Mg Jt CM CO Gp Jd Mi;go_wp2_with (go_at_call 33;refine CL.o.mono ?_;rintro e w7 ⟨a5,a6,av⟩;obtain⟨ai,ci,lcs,he,hit⟩:=KH.items (n:=10) a5;rw [show (kN (JI x).1).length=N from HN.o.symm] at he;subst he;have Mv:Hid (jG (fun g=>W6.heap.size≤g∧g<w7.heap.size) w7 ai ci (itE x) lcs):=qI hit;have Mw:=qI a6;have Jo:=qI av;clear a5 a6 av hit);have Mx:=qI (Jo.o.heap Ju.o (by have:=Je.o;have:=Gq.o;simp;omega));have My:=qI (Mh.o.kept Jo.o (by intro i f;rw [XS] at f;subst f;have:=Gq.o;omega));have Gl:Hid (gf<G∧G<W6.heap.size∧W6.heap.size≤w7.heap.size):=qI ⟨by have:=Je.o;have:=Gq.o;omega,by have:=Je.o;have:=Mu.o;omega,Jo.o.size⟩;have Jf:Hid (zb [] W1 w7):=qI (Mj.o.trans Jo.o (by intro i f;rw [XS] at f;subst f;exact .inr (XH Ja.o Gq.o)));have Mz:=qI (Jf.o.heap Js.o Wz);have Ya:=HT;clear Ju Mh CL HT Mj Me Jb Jc;go_loopw [10,11,12,31] (fun _ _ _ ah wr=>∃ (k:Nat) (L:Option Addr) (K:Nat),ah = .int .i64 k∧k≤N∧Fld 11 wr gf x (bK x k)∧kO wr G kd B st (.slice E D A) (.slice p2 u C) (.slice L k K)∧wr.ownsRow w7.heap.size 38 2 (.slice L k K) k (kI (((itE x).take k).map fun y=>(yF y).1))∧zb [gf,G] w7 wr) (fun _ _ _ ah _=>N-(intOf ah).toNat);case atStart=>exact⟨0,none,0,rfl,XB,by rw [show bK x 0=(JI x).2 by simp [bK]];exact Mw.o,Mx.o,World.ownsRow_nil _ _ _ _,Wd⟩
  case round=>
   obtain⟨k,L,K,rfl,hk,hf,he,p,a8⟩:=hrel;have HF:=qI hf;have HE:=qI he;have Gc:=qI p;have Gy:=qI a8;clear hf he p a8;by_cases af:k<N
   ·have ad:k<(itE x).length:=by rw [← HN.o];exact af
    obtain⟨g,o,ys,py,cy,qy,my,dy,rfl,q0,q1,q2,q3,q4,a3⟩:=(Mv.o.kept Gy.o (by intro i f;have:=Gl.o;simp at f;rcases f with rfl | rfl <;> omega)).atR ad;have Jw:=qI a3;have Jp:Hid (zP 10 (itE x)[k]):=qI (itE_small Jl.o _ (XX _));have Jg:=qI (badE_succ x k ad);have Jq:=qI (rows_succ x k ad);clear a3;have aJ:(k:Int)<N:=Ws;have Gz:=qI af;generalize (itE x)[k]=y at q0 q1 q3 Jw Jp Jg Jq;clear ad af hk;go_upto_region 9 with fail;obtain⟨W8,Jr⟩:=XE (wr.alloc (.cells #[.int .i64 (qo 10 y),.int .i64 (zai 10 y),.string ys,.slice py (vI 10 y) cy,.slice qy my dy] 25));have Jx:Hid (zb [] wr W8):=qI (kA1 Jr.o);have Yb:Hid (W8.heap[wr.heap.size]? = some (.cells #[.int .i64 (qo 10 y),.int .i64 (zai 10 y),.string ys,.slice py (vI 10 y) cy,.slice qy my dy] 25 (0,0))):=qI (by rw [Jr.o];exact zd rfl);refine yZ Jr.o ?_;have CO:=qI (zcr (n:=9) (Jw.o.k0 Jx.o));obtain⟨b0,b1,b2,b3,b4⟩:=yD Yb.o;clear Jr Jw q0 q1 q2 q3 q4;go_upto_region 11 with (go_at_call 31;refine CO.o.mono ?_;rintro e w9 ⟨⟨M,ak,rfl,az⟩,aq⟩;have Yc:=qI ak;have Mk:=qI az;have Jh:=qI (Jx.o.then aq);clear ak az aq b0 b1 b2 b3 b4);obtain⟨Q,b1,U,b2,Ml,Mm,Mn⟩:∃ Q b1 U b2,Hid (jC (n:=9) y (decide ((y:VS (V 9)).kind≠6)) QW 64=(Q,b1))∧Hid (jC (n:=9) y b1 Q5 1048576=(U,b2))∧Hid (yF y=(⟨Q,U⟩,b2)):=⟨_,_,_,_,qI rfl,qI rfl,qI rfl⟩;have aG:Hid (Calls prog 34 #[.pointer (some ⟨M,0,none⟩),.string QW,.int .i64 64] w9.drew fun e w'=>e = .returned (.string Q)∧Fld 9 w' M y b1∧zb [M] w9.drew w'):=qI (by
     have q:=ftext_any (n:=9) (Mk.o.k0 (zb.refl [] w9).drew) Jp.o QW 64;rw [Ml.o] at q;exact q)
    have aB:Hid (∀ w2,Fld 9 w2 M y b1→Calls prog 34 #[.pointer (some ⟨M,0,none⟩),.string Q5,.int .i64 1048576] w2 fun e w'=>e = .returned (.string U)∧Fld 9 w' M y b2∧zb [M] w2 w'):=qI (fun w2 h=>by
     have q:=ftext_any (n:=9) h Jp.o Q5 1048576;rw [Mm.o] at q;exact q)
    rw [Mn.o] at Jg Jq;simp only at Jg Jq;have Gt:Hid (wr.heap.size≤M∧G<wr.heap.size∧w7.heap.size≤wr.heap.size):=qI ⟨by have:=Yc.o;have:=Jx.o.size;omega,by have:=Gl.o;have:=Gy.o.size;omega,Gy.o.size⟩;have Mo:=qI (Jh.o.heap HE.o Wz);have c5:=za (o:=5) Mo.o rfl;clear Jp CO Mk Ml Mm Mn;have HX:Hid (kI (((itE x).take k).map fun y=>(yF y).1)=kI (((itE x).take k).map fun y=>(yF y).1)):=qI rfl;go_region_law (first
     | (refine xK tySigs (base:=w7.heap.size) (v:=.slice L k K) (n:=k) (m:=1) (news:=[.string Q,.string U]) (xs:=kI (((itE x).take k).map fun y=>(yF y).1)) (zk Yd.o ((zb.refl [] wb).alloc (.cells #[.string Q,.string U] 38)) Wz) (yE wb [.string Q,.string U] 2 1 _ _ rfl rfl Wo) (by simp [Value.oneCell']) Wo (by have:=Gz.o;have:=Jv.o;simp only [maxLen];omega) (XH Gz.o Jv.o) (by have:=Gt.o;have:=Ji.o.size;have:=Jh.o.size;simp;omega) Wk _ _ Wk Wk Wk ?_;intro J c2 s W t aC;have Jj:=qI W;have Gw:=qI t;have ab:=t.heap (((zb.refl [] wb).alloc (.cells #[.string Q,.string U] 38)).heap Mp.o Wz) (fun H=>Mq.o _ (XD H) (.inl rfl));have u0:=za (o:=5) ab rfl;have uf:=zh (o:=5) ab;have Jy:=qI ab;clear ab W t aC)
     | (go_simp;refine (aB.o _ Ye.o).mono ?_;rintro e wb ⟨rfl,a4,a9⟩;have Yf:=qI a4;have Ji:Hid (zb [M] w9 wb):=qI (Mr.o.trans' a9);have Mp:=qI (Ji.o.heap Mo.o (by have:=Gt.o;simp;omega));have Yd:=qI (zk (zk Gc.o Jh.o Wz) Ji.o (fun b O H=>by have q:=(Gc.o.lt b O).2;have:=Gt.o;rw [XS] at H;omega));have Mq:Hid (∀ b,(Value.slice L k K).ownBlock=some b→(b=G∨b=M∨b=gf)→False):=qI (fun b O H=>by have q:=Gc.o.lt b O;have:=Gt.o;have:=Gl.o;omega);have a1:=za (o:=5) Mp.o rfl;have aD:=fun cs=>((zb.refl [] wb).alloc (.cells cs 38)).cell a1 Wz;clear a4 a9)
     | (go_simp;refine aG.o.mono ?_;rintro e wa ⟨rfl,am,an⟩;have Ye:=qI am;have Mr:Hid (zb [M] w9 wa):=qI (((zb.refl [] w9).drew.mono Wz).trans' an);have aH:=Mr.o.cell c5 (by have:=Gt.o;simp;omega);clear am an))
    all_goals
     obtain⟨aL,ay,Z⟩:=Yf.o.bad5;have Y:zb [G] s (s.setCell ⟨G,5,none⟩ (.slice (some ⟨J,0,none⟩) (k+1) c2)):=(zb.refl _ s).setCell (.inl Wz) _;have Jz:Hid (kO (s.setCell ⟨G,5,none⟩ (.slice (some ⟨J,0,none⟩) (k+1) c2)) G kd B st (.slice E D A) (.slice p2 u C) (.slice (some ⟨J,0,none⟩) (k+1) c2)):=qI (ze (i:=5) (v:=.slice (some ⟨J,0,none⟩) (k+1) c2) (d:=#[.int .i64 kd,.int .i64 B,.string st,.slice E D A,.slice p2 u C,.slice (some ⟨J,0,none⟩) (k+1) c2]) Jy.o rfl);have Gd:Hid ((s.setCell ⟨G,5,none⟩ (.slice (some ⟨J,0,none⟩) (k+1) c2)).ownsRow w7.heap.size 38 2 (.slice (some ⟨J,0,none⟩) (k+1) c2) (k+1) (kI (((itE x).take (k+1)).map fun y=>(yF y).1))):=qI (by
      rw [Jq.o];exact zk Jj.o Y (fun b O H=>by have q:=(Jj.o.lt b O).1;have:=Gl.o;rw [XS] at H;omega))
     have Ma:Hid (Fld 11 (s.setCell ⟨G,5,none⟩ (.slice (some ⟨J,0,none⟩) (k+1) c2)) gf x (bK x k)):=qI (((((HF.o.k0 Jh.o).kept Ji.o (by intro i f;rw [XS] at f;have:=Gt.o;have:=Gl.o;omega)).k0 ((zb.refl [] wb).alloc (.cells #[.string Q,.string U] 38))).kept Gw.o (fun i f=>by have q:=(Gc.o.lt i (XD f)).1;have:=Gl.o;omega)).kept Y (by intro i f;rw [XS] at f;have:=Gl.o;omega));have g5:(s.setCell ⟨G,5,none⟩ (.slice (some ⟨J,0,none⟩) (k+1) c2)).cell? ⟨M,5,none⟩=some (.bool b2):=Y.cell (Gw.o.cell (((zb.refl [] wb).alloc (.cells #[.string Q,.string U] 38)).cell (za (o:=5) ay Z) Wz) (fun H=>Mq.o _ (XD H) (.inr (.inl rfl)))) (by have:=Gt.o;simp;omega);have Gm:Hid (zb [gf,G] w7 (s.setCell ⟨G,5,none⟩ (.slice (some ⟨J,0,none⟩) (k+1) c2))):=qI (((((Gy.o.then Jh.o).trans Ji.o (by intro i f;rw [XS] at f;subst f;exact .inr (XC Gt.o))).alloc (.cells #[.string Q,.string U] 38)).trans Gw.o (fun i f=>.inr (Gc.o.lt i (XD f)).1)).trans Y (by intro i f;rw [XS] at f;subst f;exact .inl Wz));generalize (s.setCell ⟨G,5,none⟩ (.slice (some ⟨J,0,none⟩) (k+1) c2))=WF at Jz Gd Ma g5 Gm ⊢;have CD:=qI (cellDone_any g5);clear Y ay Z g5 u0 uf c5 aH a1 aD;cases b2 with
     | false=>rw [doneZ_no] at CD;go_wp2_with (go_at_call 35;refine CD.o.mono ?_;rintro e aa ⟨rfl,rfl⟩);case roundEnd=>exact⟨⟨k+1,some ⟨J,0,none⟩,c2,by go_num,Gz.o,by rw [Jg.o,Bool.or_false];exact Ma.o,Jz.o,Gd.o,Gm.o⟩,by have:=Gz.o;simp [intOf];omega⟩
     | true=>
      rw [doneZ_yes] at CD;go_wp2_with first
       | (go_at_call 35;refine CD.o.mono ?_;rintro e aa ⟨rfl,rfl⟩)
       | (go_at_call 36;refine (QH Ma.o).mono ?_;rintro e z ⟨rfl,ax,au⟩;have Yg:=qI ax;have Mb:=qI au;clear ax au)
      case roundEnd=>exact⟨⟨k+1,some ⟨J,0,none⟩,c2,by go_num,Gz.o,by rw [Jg.o,Bool.or_true];exact Yg.o,Mb.o.heap Jz.o (by have:=Gl.o;simp;omega),zk Gd.o Mb.o (fun b O H=>by have q:=(Gd.o.lt b O).1;have:=Gl.o;rw [XS] at H;omega),Gm.o.trans Mb.o (by intro i f;rw [XS] at f;subst f;exact .inl Wz)⟩,by have:=Gz.o;simp [intOf];omega⟩
   ·obtain rfl:k=N:=by omega
    have aN:¬ (k:Int)<k:=Ws;have Gm:Hid (zb [] W1 wr):=qI (Jf.o.trans Gy.o (by intro i f;simp at f;have:=Ja.o;have:=Gq.o;have:=Gl.o;rcases f with rfl | rfl <;> exact .inr Ws));have R:(qF x).length=k:=by unfold qF;rw [Xb];exact HN.o.symm
    have aw:((itE x).take k).map (fun y=>(yF y).1)=qF x:=by rw [Xl (by rw [← HN.o];exact XA)];rfl
    have p:=Gc.o;rw [aw] at p;have Gu:Hid (∀ WF,zb [w.heap.size] wr WF→Env 11 (fun _=>True) WF [.int .i64 kd,.int .i64 B,.string st,.slice E D A,.slice p2 u C] (ZN x) L K (qF x)):=qI (fun WF ap=>⟨((My.o.kept Gy.o (by intro i f;simp at f;have:=Gq.o;have:=Je.o;rcases f with rfl | rfl <;> omega)).kept ap (by intro i f;rw [XS] at f;have:=Gq.o;omega)).mono (fun _ _ _=>trivial),zcq (n:=10) Jl.o,Wo,by unfold ky;rw [R];exact Slc.of_row (zk p ap (fun b O H=>by have q:=(Gc.o.lt b O).1;have:=Gl.o;have:=Gq.o;rw [XS] at H;omega)),fun r hr=>by
     obtain⟨y,-,rfl⟩:=Xm.1 hr;have q:=Kc y;exact⟨Ws,Ws⟩,by rw [R];have:=Jv.o;omega⟩)
    have Jk:=qI (Gu.o wr (zb.refl [w.heap.size] wr));have Gd:=qI (Gm.o.heap Js.o Wz);have Yh:Hid (xS wr):=qI (Ya.o.k0 Gm.o);have ag:Hid (zG wr 21 #[.agg #[.int .i64 kd,.int .i64 B,.string st,.slice E D A,.slice p2 u C,.slice L k K]] (.bool (yd 11 (ZN x) (qF x)))):=qI (by
     have q:=qZ Jk.o Yh.o;rw [R] at q;exact q)
    have I:=qI (fdone_any HF.o);obtain⟨bd,ae⟩:=XF (bK x k);obtain⟨my,aj⟩:=XF (yd 11 (ZN x) (qF x));have Mc:Hid (DB=if bd=false∧my=true then .inr (ZN x,qF x) else .inl 130):=qI (by rw [HD.o,← HN.o,← ae,← aj]);rw [← ae] at I;rw [← aj] at ag;have Yi:=qI R;clear p aw R ae aj Gc Jk;obtain⟨c0,c1,c2,c3,c4,c5⟩:=yz HE.o;cases bd with
    | true=>rw [doneZ_yes] at I;clear c0 c1 c2 c3 c4 c5;obtain⟨r0,r1,r2,r3,r4,r5⟩:=yz Gd.o;have rz:=zau Gd.o;go_wp2_with (go_at_call 35;refine I.o.mono ?_;rintro e aa ⟨rfl,rfl⟩);change bodyPost _ _ _ _ _ (Za wr w.heap.size (.int .i64 0) (.int .i64 0) (.string ⟨#[]⟩) (.slice none 0 0) (.slice none 0 0) (.slice none 0 0));have P:=kW wr w.heap.size (.int .i64 0) (.int .i64 0) (.string ⟨#[]⟩) (.slice none 0 0) (.slice none 0 0) (.slice none 0 0);have X:=vT Gd.o (.int .i64 0) (.int .i64 0) (.string ⟨#[]⟩) (.slice none 0 0) (.slice none 0 0) (.slice none 0 0);generalize Za wr w.heap.size (.int .i64 0) (.int .i64 0) (.string ⟨#[]⟩) (.slice none 0 0) (.slice none 0 0) (.slice none 0 0)=WF at P X;obtain⟨y0,y1,y2,y3,y4,y5⟩:=yz X;refine bodyPost_ret (v:=.tuple #[.agg #[.int .i64 0,.int .i64 0,.string ⟨#[]⟩,.slice none 0 0,.slice none 0 0,.slice none 0 0],.int .i64 130]) (by simp [results,results10,go_sem,y0,y1,y2,y3,y4,y5]) rfl ?_;exact⟨Gj.o 130 (by rw [Mc.o];simp) _ _ rfl,(Gg.o.then Gm.o).trans P (by intro i f;rw [XS] at f;subst f;exact .inr (XA))⟩
    | false=>
     rw [doneZ_no] at I;cases my with
     | false=>
      go_wp2_with first
       | (go_at_call 35;refine I.o.mono ?_;rintro e aa ⟨rfl,rfl⟩)
       | (go_at_call 21;refine ag.o.mono ?_;rintro e z ⟨rfl,j⟩;have Gr:=qI j;have F:=qI (j.heap Gd.o Wz);have Ge:=qI (j.heap HE.o Wz);clear j c0 c1 c2 c3 c4 c5;have r0:=za (o:=0) F.o rfl;have r1:=za (o:=1) F.o rfl;have r2:=za (o:=2) F.o rfl;have r3:=za (o:=3) F.o rfl;have r4:=za (o:=4) F.o rfl;have r5:=za (o:=5) F.o rfl;have rz:=zau F.o)
      change bodyPost _ _ _ _ _ (Za z w.heap.size (.int .i64 0) (.int .i64 0) (.string ⟨#[]⟩) (.slice none 0 0) (.slice none 0 0) (.slice none 0 0));have P:=kW z w.heap.size (.int .i64 0) (.int .i64 0) (.string ⟨#[]⟩) (.slice none 0 0) (.slice none 0 0) (.slice none 0 0);have X:=vT F.o (.int .i64 0) (.int .i64 0) (.string ⟨#[]⟩) (.slice none 0 0) (.slice none 0 0) (.slice none 0 0);generalize Za z w.heap.size (.int .i64 0) (.int .i64 0) (.string ⟨#[]⟩) (.slice none 0 0) (.slice none 0 0) (.slice none 0 0)=WF at P X;obtain⟨y0,y1,y2,y3,y4,y5⟩:=yz X;refine bodyPost_ret (v:=.tuple #[.agg #[.int .i64 0,.int .i64 0,.string ⟨#[]⟩,.slice none 0 0,.slice none 0 0,.slice none 0 0],.int .i64 130]) (by simp [results,results10,go_sem,y0,y1,y2,y3,y4,y5]) rfl ?_;exact⟨Gj.o 130 (by rw [Mc.o];simp) _ _ rfl,((Gg.o.then Gm.o).then Gr.o).trans P (by intro i f;rw [XS] at f;subst f;exact .inr (XA))⟩
     | true=>
      have Yj:Hid (DB = .inr (ZN x,qF x)):=qI (by rw [Mc.o];simp);go_wp2_with first
       | (go_at_call 35;refine I.o.mono ?_;rintro e aa ⟨rfl,rfl⟩)
       | (go_at_call 21;refine ag.o.mono ?_;rintro e z ⟨rfl,j⟩;have Gr:=qI j;have F:=qI (j.heap Gd.o Wz);have Ge:=qI (j.heap HE.o Wz);clear j c0 c1 c2 c3 c4 c5;have r0:=za (o:=0) F.o rfl;have r1:=za (o:=1) F.o rfl;have r2:=za (o:=2) F.o rfl;have r3:=za (o:=3) F.o rfl;have r4:=za (o:=4) F.o rfl;have r5:=za (o:=5) F.o rfl;have rz:=zau F.o;have x0:=za (o:=0) Ge.o rfl;have x1:=za (o:=1) Ge.o rfl;have x2:=za (o:=2) Ge.o rfl;have x3:=za (o:=3) Ge.o rfl;have x4:=za (o:=4) Ge.o rfl;have x5:=za (o:=5) Ge.o rfl)
      change bodyPost _ _ _ _ _ (Za z w.heap.size (.int .i64 kd) (.int .i64 B) (.string st) (.slice E D A) (.slice p2 u C) (.slice L k K));have P:=kW z w.heap.size (.int .i64 kd) (.int .i64 B) (.string st) (.slice E D A) (.slice p2 u C) (.slice L k K);have X:=vT F.o (.int .i64 kd) (.int .i64 B) (.string st) (.slice E D A) (.slice p2 u C) (.slice L k K);generalize Za z w.heap.size (.int .i64 kd) (.int .i64 B) (.string st) (.slice E D A) (.slice p2 u C) (.slice L k K)=WF at P X;obtain⟨y0,y1,y2,y3,y4,y5⟩:=yz X;refine bodyPost_ret (v:=.tuple #[.agg #[.int .i64 kd,.int .i64 B,.string st,.slice E D A,.slice p2 u C,.slice L k K],.int .i64 0]) (by simp [results,results10,go_sem,y0,y1,y2,y3,y4,y5]) rfl ?_;exact (by
       have q:=Gk.o (ZN x) (qF x) Yj.o kd B st E D A p2 u C L K WF (Gu.o WF ((Gr.o.mono Wz).trans' P));rw [Yi.o] at q;exact⟨q,((Gg.o.then Gm.o).then Gr.o).trans P (by intro i f;rw [XS] at f;subst f;exact .inr (XA))⟩)
theorem read_sigV {r:yg}(e:r.id.size≤64)(h2:r.sig.size≤1048576):yF (jT r)=(r,false):=by
 have b:jC (n:=9) (jT r:VS (V 9)) false QW 64=(r.id,false):=gtext_pos (n:=9) (x:=(kB r.id:VS (V 8))) Wk Wk (by show (r.id.size:Int)≤64;omega);have a:jC (n:=9) (jT r:VS (V 9)) false Q5 1048576=(r.sig,false):=gtext_pos (n:=9) (x:=(kB r.sig:VS (V 8))) Wk Wk (by show (r.sig.size:Int)≤1048576;omega);have d:decide ((jT r:VS (V 9)).kind≠6)=false:=rfl;unfold yF;rw [d,b];simp only;rw [a]
theorem fst_env {v:V 11}(l:List yg)(b:qo 11 v=6):fstE (qg v l)=(some v,false):=by
 have a:decide ((qg v l:VS (V 11)).kind≠6)=false:=rfl;unfold fstE;rw [a];exact gmap_pos (n:=11) Wk b
theorem lst_env {v:V 11}(a:qo 11 v=6)(b:l.length≤16):JI (qg v l)=(some (jL (l.map jT):VS (V 10)),false):=by
 unfold JI;rw [fst_env l a];refine glist_pos (n:=11) Wk Wk ?_;have e:vI 11 (jL (l.map jT):VS (V 10))=l.length:=by show (l.map jT).length=_;rw [Xb]
 rw [e];omega
theorem it_env {v:V 11}(a:qo 11 v=6)(b:l.length≤16):itE (qg v l)=l.map jT:=by
 unfold itE;rw [lst_env a b];rfl
theorem decE_env {v:V 11}(hp:yH b = .inr (qg v l))(d:qo 11 v=6)(e:l.length≤16)(a:∀ r,r∈l→r.id.size≤64∧r.sig.size≤1048576)(hm:yd 11 v l=true):Y8 b = .inr (v,l):=by
 have k:ZN (qg v l)=v:=by unfold ZN;rw [fst_env l d];rfl
 have f:qF (qg v l)=l:=by unfold qF;rw [it_env d e,uL];refine (un (g:=id) fun r h=>?_).trans (List.map_id _);show (yF (jT r)).1=r;rw [read_sigV (a r h).1 (a r h).2]
 have j:bK (qg v l) (itE (qg v l)).length=false:=by unfold bK;rw [lst_env d e,Xw,it_env d e,Bool.false_or,List.any_eq_false];intro y i;obtain⟨r,h,rfl⟩:=Xm.1 i;rw [read_sigV (a r h).1 (a r h).2];exact Bool.false_ne_true
 unfold Y8;rw [hp];simp only;rw [k,f,j,hm];rfl
theorem decE_one:Y8 (xV 12 (qg v0 [rS])).1 = .inr (v0,[rS]):=by
 have a:=rS_id;have h2:=Kh;refine decE_env (dec_one a.2.1 h2.2.1 (by rw [a.1,h2.1];decide)) Wk Wz (fun r b=>?_) za3;rw [XS] at b;rw [b,a.1,h2.1];decide
theorem small_one:zP 12 (qg v0 [rS]):=by
 refine⟨by show (7:Nat)≤20000;decide,?_⟩;rw [bytes_one,rS_id.1,Kh.1];decide
theorem small_none:zP 12 (qg v0 []):=⟨by show (4:Nat)≤20000;decide,by show (25:Nat)≤400000;decide⟩
theorem parse_braces:yH [123,125] = .inr (vD []:VS (V 11)):=by
 have e:zr 12 (vD []:VS (V 11))=[123,125]:=Wk;have b:zK 12 (vD []:VS (V 11))=(vD []:VS (V 11)):=by show (⟨6,0,_,_,List.mergeSort [] _⟩:VS (V 11))=_;rw [List.mergeSort_nil];rfl
 have hc:zV 12 (vD []:VS (V 11))=0:=ql.2 ⟨by show (1:Nat)≤12;decide,by show (1:Nat)≤4096;decide,vW (n:=11) [] Wz Wz Wz⟩;have a:xV 12 (vD []:VS (V 11))=([123,125],0):=QR.2 ⟨hc,by rw [b,e];decide,by rw [b,e]⟩;have h:=(dec_enc a).2.1;rw [b] at h;exact h
theorem decE_braces:Y8 [123,125] = .inl 130:=by
 have b:fstE (vD []:VS (V 11))=(none,true):=Wk;have a:JI (vD []:VS (V 11))=(none,true):=by unfold JI;rw [b];rfl
 have d:∀ k,bK (vD []:VS (V 11)) k=true:=fun k=>by unfold bK;rw [a];rfl
 unfold Y8;rw [parse_braces];simp only;rw [d];rfl
theorem kind_v0:vJ v0 YI=some (kB Qq:VS (V 9)):=Wk
attribute [local go_sem] Oper.semAt_some
theorem kind_any {w:World}{cs:List Value}{v:VS (V n)}{c:Nat}(h:Env (n+1) S w cs v a c l){x:V n}(z:vJ v YI=some x)(F:qo n x=4) : zG w 19 #[.agg (zaQ cs a l.length c).toArray] (.string (bw n x)):=by
 obtain⟨kd,j,st,s,r,i,p2,k,q,rfl⟩:=h.rep.conv;obtain⟨d,p⟩:=XE (w.alloc (.cells #[.int .i64 kd,.int .i64 j,.string st,.slice s r i,.slice p2 k q,.slice a l.length c] 28));have u:Hid (zb [] w d):=qI (kA1 p.o);have b:Hid (kO d w.heap.size kd j st (.slice s r i) (.slice p2 k q) (.slice a l.length c)):=qI (by rw [p.o];exact zd rfl);have D:Hid (Calls prog 61 #[.agg #[.int .i64 kd,.int .i64 j,.string st,.slice s r i,.slice p2 k q],.string YI] d fun e y=>GetAns n d.heap.size y e (some x)∧zb [] d y):=qI (by
  have B:=get_any (h.rep.k0 u.o) h.small YI;rw [z] at B;exact B)
 have c0:=za (o:=0) b.o rfl;have c1:=za (o:=1) b.o rfl;have c2:=za (o:=2) b.o rfl;have c3:=za (o:=3) b.o rfl;have c4:=za (o:=4) b.o rfl;clear h z;show Calls _ _ #[.agg #[.int .i64 kd,.int .i64 j,.string st,.slice s r i,.slice p2 k q,.slice a l.length c]] _ _;generalize l.length=m at p b ⊢;go_enter func19,ntmps19;go_upto_region 1 with fail;refine yZ p.o ?_;go_upto_region 2 with (go_at_call 61;refine D.o.mono ?_;rintro e w2 ⟨⟨H,rfl,A⟩,f⟩;obtain⟨s',p',c',q',j',d',rfl,rfl⟩:=A.rep.gone;rw [F];have I:=qI f;clear A f);obtain⟨C,t⟩:=XE (w2.alloc (.cells #[.int .i64 4,.int .i64 (zai n x),.string (bw n x),.slice p' (vI n x) c',.slice q' j' d'] 25));have E:Hid (zb [] d C):=qI (by rw [t.o];exact I.o.alloc _);have G:Hid (C.heap[w2.heap.size]? = some (.cells #[.int .i64 4,.int .i64 (zai n x),.string (bw n x),.slice p' (vI n x) c',.slice q' j' d'] 25 (0,0))):=qI (by rw [t.o];exact zd rfl);refine yZ t.o ?_;obtain⟨K,J,b2,b3,L⟩:=yD G.o;clear c0 c1 c2 c3 c4 D;go_wp2;go_ret;exact⟨rfl,u.o.then E.o⟩
theorem holdsPast_any {w:World}{cs:List Value}{v:V n}{c:Nat}(h:Env n S w cs v a c l)(I:xS w)(j:yd n v l=true)(k:yY)(i:Nat)(D:l.length≤i)(ad:i≤1000000) : zG w 17 #[.agg (zaQ cs a l.length c).toArray,.int .i64 i,.agg (yV k)] (.bool false):=by
 obtain⟨kd,z,st,u,t,q,p2,s,p,rfl⟩:=h.rep.conv;obtain⟨C,A⟩:=XE ((w.alloc (.cells #[.int .i64 kd,.int .i64 z,.string st,.slice u t q,.slice p2 s p,.slice a l.length c] 28)).alloc (.cells (yV k) 51));have B:Hid (zb [] w C):=qI (kA2 A.o);have K:Hid (C.heap[w.heap.size]? = some (.cells #[.int .i64 kd,.int .i64 z,.string st,.slice u t q,.slice p2 s p,.slice a l.length c] 28 (0,0))):=qI (by rw [A.o];exact ((zb.refl [] _).alloc _).heap (zd rfl) Wz);have J:Hid (xz C 21 #[.agg #[.int .i64 kd,.int .i64 z,.string st,.slice u t q,.slice p2 s p,.slice a l.length c]] (.bool true)):=qI (fun w2 F=>by
  have G:=qZ (h.k0 (B.o.then F)) (I.k0 (B.o.then F));rw [j] at G;exact G)
 have E:(l.length:Int)≤i:=Ws;have L:(i:Int)≤1000000:=Ws;clear h I j;generalize l.length=m at A K J D E ⊢;have Q:decide (m≤i)=true:=XT D;clear D;obtain⟨c0,c1,c2,c3,c4,c5⟩:=yz K.o;show Calls _ _ #[.agg #[.int .i64 kd,.int .i64 z,.string st,.slice u t q,.slice p2 s p,.slice a m c],.int .i64 i,.agg (yV k)] _ _;go_enter func17,ntmps17;go_upto_region 1 with fail;refine yZ A.o ?_;go_wp2
 refine yG (n:=61) 24 [fI (.agg #[.int .i64 kd,.int .i64 z,.string st,.slice u t q,.slice p2 s p,.slice a m c]),
  fT,
  fF,
  fF,
  fI (.int .i64 i),
  fF,
  fF,
  fF,
  fI (.int .i64 i),
  fI (.pointer (some ⟨w.heap.size,5,none⟩)),
  fI (.slice a m c),
  fI (.int .i64 m),
  fT,
  fT,
  fT,
  fU,
  fU,
  fU,
  fU,
  fU,
  fU,
  fU,
  fU,
  fU] Wr rfl Wr (fun x=>qB) ?_ ?_
 ·refine⟨?_,?_,?_,?_,?_,?_,?_,?_,?_,?_,?_,?_,?_,?_,?_,?_,?_,?_,?_,?_,?_,?_,?_,?_,trivial⟩ <;> intro x w2 d b hd;·have y0:=d.cell c0 Wz;obtain⟨y1,y2,y3,y4,M⟩:=VP d c1 c2 c3 c4 c5;exact zi
  ·have d0:x 0=_:=hd 0 Wr;have d0:x 0=_:=hd 0 Wr;have N:=J.o _ d;go_wp2_with (go_at_call 21;refine N.mh ?_;rintro e w5 rfl W);exact⟨rfl,W.o⟩
  ·have q:x 1=_:=hd 1 Wr;exact zi
  ·have p:x 2=_:=hd 2 Wr;exact zi
  ·have H:x 3=_:=hd 3 Wr;exact zi
  ·have H:x 3=_:=hd 3 Wr;have d4:x 4=_:=hd 4 Wr;exact zi
  ·have H:x 3=_:=hd 3 Wr;have d5:x 5=_:=hd 5 Wr;exact zi
  ·have d6:x 6=_:=hd 6 Wr;exact zi
  ·have r:x 7=_:=hd 7 Wr;exact zi
  ·have r:x 7=_:=hd 7 Wr;exact zi
  ·have r:x 7=_:=hd 7 Wr;have d9:x 9=_:=hd 9 Wr;have M:=d.cell c5 Wz;exact zi
  ·have r:x 7=_:=hd 7 Wr;have ah:x 10=_:=hd 10 Wr;exact zi
  ·have r:x 7=_:=hd 7 Wr;have d8:x 8=_:=hd 8 Wr;have Y:x 11=_:=hd 11 Wr;exact zi
  ·have r:x 7=_:=hd 7 Wr;have ai:x 12=_:=hd 12 Wr;exact zi
  ·have af:x 13=_:=hd 13 Wr;exact zi
  ·have f:x 14=_:=hd 14 Wr;exact zi
  ·have f:x 14=_:=hd 14 Wr;have ab:x 15=_:=hd 15 Wr;exact zi
  ·have f:x 14=_:=hd 14 Wr;exact zi
  ·have f:x 14=_:=hd 14 Wr;have aa:x 16=_:=hd 16 Wr;have R:x 17=_:=hd 17 Wr;exact zi
  ·have f:x 14=_:=hd 14 Wr;have U:x 18=_:=hd 18 Wr;exact zi
  ·have f:x 14=_:=hd 14 Wr;have O:x 19=_:=hd 19 Wr;exact zi
  ·have f:x 14=_:=hd 14 Wr;exact zi
  ·have f:x 14=_:=hd 14 Wr;have ag:x 21=_:=hd 21 Wr;exact zi
  ·have f:x 14=_:=hd 14 Wr;have Z:x 20=_:=hd 20 Wr;have P:x 22=_:=hd 22 Wr;exact zi
 ·intro x ae d X hd y;have f:x 14=_:=hd 14 Wo;have Gm:=qI d;clear hd y d;change wpList _ _ _ [_] _ _;go_wp2;go_ret;exact⟨rfl,B.o.then Gm.o⟩
end Go.Proofs.YtjccecajigmfkaaGreatDoor

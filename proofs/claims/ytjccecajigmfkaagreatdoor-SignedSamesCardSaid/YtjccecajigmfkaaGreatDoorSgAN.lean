/- Parts of one proof, merged: XHL XHM XHN. -/
import Derived.Test.YtjccecajigmfkaaGreatDoorSgAM
import Derived.Test.YtjccecajigmfkaaGreatDoorSgAI
set_option linter.all false
set_option maxHeartbeats 12800000
set_option maxRecDepth 100000
namespace Go.Proofs.YtjccecajigmfkaaGreatDoor
open Go.Proofs.Tryz
open Go.RowKit
attribute [local go_sem] Oper.semAt_some
variable {S:Nat→Prop}{a:Option Addr}{b:List UInt8}{l:List yh}{n:Nat}{v:V 11}
def xO (y:V 10):yh×Bool:=
 let t1:=b9 (n:=9) y (decide ((y:VS (V 9)).kind≠6)) K1 64
 let t2:=b9 (n:=9) y t1.2 K0 1048576
 (⟨t1.1,t2.1⟩,t2.2)
def fstE (x:V 12):Option (V 11)×Bool:=fmap (n:=11) x (decide ((x:VS (V 11)).kind≠6)) zan
def lstE (x:V 12):Option (V 11)×Bool:=QD (n:=11) x (fstE x).2 Z8 16
def itE (x:V 12):List (V 10):=QV (lstE x).1
def zam (x:V 12):V 11:=((fstE x).1.getD (KK:VS (V 10)):VS (V 10))
def vW (x:V 12):List yh:=(itE x).map fun y=>(xO y).1
def Ke (x:V 12)(k:Nat):Bool:=(lstE x).2 || ((itE x).take k).any fun y=>(xO y).2
def zaP (b:List UInt8):Sum Int (V 11×List yh):=
 match xI b with
 | .inl x=>.inl x
 | .inr x=>if Ke x (itE x).length=false∧yf 11 (zam x) (vW x)=true then .inr (zam x,vW x) else .inl 130
def YC (b:List UInt8)(e:Ending)(w':World):Prop:=
 match zaP b with
 | .inl x=>e = .returned (.tuple #[.agg #[.int .i64 0,.int .i64 0,.string ⟨#[]⟩,.slice none 0 0,.slice none 0 0,.slice none 0 0],.int .i64 x])
 | .inr (v,l)=>∃ kd nm st p1 i1 d1 p2 i2 d2 a c,e = .returned (.tuple #[.agg #[.int .i64 kd,.int .i64 nm,.string st,.slice p1 i1 d1,.slice p2 i2 d2,.slice a l.length c],.int .i64 0])∧Env 11 (fun _=>True) w' [.int .i64 kd,.int .i64 nm,.string st,.slice p1 i1 d1,.slice p2 i2 d2] v a c l
theorem itE_len (x:V 12):(itE x).length≤16:=flist_le (n:=10) x _ _ 16
theorem itE_small {x:V 12}(h:zP 12 x):∀ y,y∈itE x→zP 10 y:=fun y a=>(flist_small (n:=10) h y a).1
theorem badE_succ (x:V 12)(k:Nat)(a:k<(itE x).length):Ke x (k+1)=(Ke x k || (xO (itE x)[k]).2):=by
 unfold Ke
 rw [List.take_succ_eq_append_getElem a,List.any_append,← Bool.or_assoc]
 simp
theorem rows_succ (x:V 12)(k:Nat)(a:k<(itE x).length):jH (((itE x).take (k+1)).map fun y=>(xO y).1)=jH (((itE x).take k).map fun y=>(xO y).1)++[.string (xO (itE x)[k]).1.id,.string (xO (itE x)[k]).1.sig]:=by
 rw [List.take_succ_eq_append_getElem a,List.map_append,List.map_singleton,zaY]
 rfl
theorem Given.repIn {w a:World}{e:Ending}{r:Option (V (n+1))}(h:Given (n+1) w a e r):∃ k m s p i c q j d,e = .returned (.agg #[.int .i64 k,.int .i64 m,.string s,.slice p i c,.slice q j d])∧Rep (n+1) (fun g=>w.heap.size≤g∧g<a.heap.size) a [.int .i64 k,.int .i64 m,.string s,.slice p i c,.slice q j d] (r.getD (KK:VS (V n)):VS (V n)):=by
 cases r with
 | none=>exact⟨_,_,_,_,_,_,_,_,_,h,rep_zero _ _⟩
 | some x=>
  obtain⟨k,m,s,p,i,c,q,j,d,b,h2⟩:=vo h
  exact⟨k,m,s,p,i,c,q,j,d,b,h2.rep⟩
theorem Zz.atR {w:World}{c:Nat}{xs:List (V n)}{lcs:List (List Value)}(h:Zz S w a c xs lcs){j:Nat}(v:j<xs.length):∃ g o s p cl q m d,a=some ⟨g,o,none⟩∧w.cell? ⟨g,o+j*5,none⟩=some (.int .i64 (jh n xs[j]))∧w.cell? ⟨g,o+j*5+1,none⟩=some (.int .i64 (numV n xs[j]))∧w.cell? ⟨g,o+j*5+2,none⟩=some (.string s)∧w.cell? ⟨g,o+j*5+3,none⟩=some (.slice p (bI n xs[j]) cl)∧w.cell? ⟨g,o+j*5+4,none⟩=some (.slice q m d)∧Rep n S w [.int .i64 (jh n xs[j]),.int .i64 (numV n xs[j]),.string s,.slice p (bI n xs[j]) cl,.slice q m d] xs[j]:=by
 obtain⟨y,h2,h3⟩:=h
 have u:=h2.1
 have l:j<lcs.length:=Ws
 have t:=h2.2 j _ _ (List.getElem?_eq_getElem l) (List.getElem?_eq_getElem v)
 obtain⟨s,p,cl,q,m,d,e,z⟩:=t.gone
 have f:∀ c,c∈lcs→c.length=5:=by
  intro c hc
  obtain⟨i,r,rfl⟩:=List.getElem_of_mem hc
  exact (h2.2 i _ _ (List.getElem?_eq_getElem r) (List.getElem?_eq_getElem Ws)).len
 rcases y.2 with ⟨_,x⟩ | ⟨x,_⟩ | ⟨g,o,cap,k,_,_,b⟩
 ·omega
 ·omega
 simp only [Value.slice.injEq] at k
 have hc:∀ i,i<5→lcs.flatten[j*5+i]? = lcs[j][i]?:=fun i r=>kK lcs j i f l r
 rw [e] at hc t
 refine⟨g,o,s,p,cl,q,m,d,k.1,b.cells (j*5+0) _ (hc 0 Wo),?_,?_,?_,?_,t⟩
 all_goals rw [Nat.add_assoc]
 ·exact b.cells (j*5+1) _ (hc 1 Wo)
 ·exact b.cells (j*5+2) _ (hc 2 Wo)
 ·exact b.cells (j*5+3) _ (hc 3 Wo)
 ·exact b.cells (j*5+4) _ (hc 4 Wo)
section
variable {w : World} {g : Nat} {bad : Bool}
theorem cellOk_any (c5:w.cell? ⟨g,5,none⟩=some (.bool bad)):Calls prog 81 #[.pointer (some ⟨g,0,none⟩)] w fun e w'=>e = .returned (.bool (!bad))∧w=w':=by
 cases bad
 all_goals
  go_enter func81,ntmps81
  go_wp2_with fail
  go_ret
  exact⟨rfl,rfl⟩
theorem cellDone_any (c5:w.cell? ⟨g,5,none⟩=some (.bool bad)):Calls prog 35 #[.pointer (some ⟨g,0,none⟩)] w fun e w'=>e = .returned (.int .i64 (doneZ bad))∧w=w':=by
 have a:=qI (cellOk_any c5)
 clear c5
 cases bad
 all_goals
  go_enter func35,ntmps35
  go_wp2_with (go_at_call 81;refine a.o.mono ?_;rintro e b ⟨rfl,rfl⟩)
  go_ret
  exact⟨rfl,rfl⟩
end
theorem Fld.bad5 {w:World}{g:Nat}{v:VS (V n)}{bad:Bool}(h:Fld n w g v bad):∃ cs,w.heap[g]? = some (.cells cs 114 (0,0))∧cs[5]? = some (.bool bad):=by
 obtain⟨p,c,q,d,a,-⟩:=h
 exact⟨_,a,rfl⟩
theorem readRow_small (y:V 10):(xO y).1.id.size≤64∧(xO y).1.sig.size≤1048576:=⟨ftext_le (n:=9) y _ _ 64,ftext_le (n:=9) y _ _ 1048576⟩
theorem doneZ_no:doneZ false=0:=rfl
theorem doneZ_yes:doneZ true=130:=rfl
theorem put6z {w:World}{g:Nat}{t:Nat}(h:w.heap[g]? = some (.cells #[.int .i64 0,.int .i64 0,.string ⟨#[]⟩,.slice none 0 0,.slice none 0 0,.slice none 0 0] t (0,0))):∀ j,w.frozen? ⟨g,j,none⟩=false:=fun j=>zh h
set_option maxHeartbeats 25600000 in
theorem QE {w:World}{c:Nat}(M:zp w (.slice a b.length c) b)(ht:xH w) : Calls prog 10 #[.slice a b.length c] w fun e w'=>YC b e w'∧zb [] w w':=by
 obtain⟨W1,Gf⟩:=XE (w.alloc (.cells #[.int .i64 0,.int .i64 0,.string ⟨#[]⟩,.slice none 0 0,.slice none 0 0,.slice none 0 0] 28));have Gg:Hid (zb [] w W1):=qI (kA1 Gf.o);have Js:Hid (jG W1 w.heap.size 0 0 ⟨#[]⟩ (.slice none 0 0) (.slice none 0 0) (.slice none 0 0)):=qI (by rw [Gf.o];exact ze rfl);have Ja:Hid (W1.heap.size=w.heap.size+1):=qI (by rw [Gf.o];simp);have CP:=qI (parse_any (M.k0 Gg.o) (ht.k0 Gg.o));have HT:=qI (ht.k0 Gg.o);generalize b.length=bn at CP ⊢;clear M ht;have Gj:Hid (∀ x,zaP b = .inl x→∀ e w',e = .returned (.tuple #[.agg #[.int .i64 0,.int .i64 0,.string ⟨#[]⟩,.slice none 0 0,.slice none 0 0,.slice none 0 0],.int .i64 x])→YC b e w'):=qI (fun x h e w' h2=>by unfold YC;rw [h];exact h2);have Gk:Hid (∀ v l,zaP b = .inr (v,l)→∀ kd u st B D E p2 A C a c w',Env 11 (fun _=>True) w' [.int .i64 kd,.int .i64 u,.string st,.slice B D E,.slice p2 A C] v a c l→YC b (.returned (.tuple #[.agg #[.int .i64 kd,.int .i64 u,.string st,.slice B D E,.slice p2 A C,.slice a l.length c],.int .i64 0])) w'):=qI (fun v l h kd u st B D E p2 A C a c w' h2=>by unfold YC;rw [h];exact⟨_,_,_,_,_,_,_,_,_,_,_,rfl,h2⟩);generalize YC b=ANS at Gj Gk ⊢;have HD:Hid (zaP b=match xI b with
  | .inl x=>.inl x
  | .inr x=>if Ke x (itE x).length=false∧yf 11 (zam x) (vW x)=true then .inr (zam x,vW x) else .inl 130):=qI rfl
 have Gv:Hid (∀ x,xI b = .inr x→zP 12 x):=qI (fun x h=>⟨by have:=(J9 h).2.1;omega,by have:=(J9 h).2.2;omega⟩);unfold j0 at CP;generalize aC:zaP b=DB at HD Gj Gk;generalize xI b=PB at CP HD Gv;clear aC;go_enter func10,ntmps10;go_upto_region 1 with fail;rw [← Gf.o];cases PB with
 | inl x=>simp only at CP HD;obtain rfl:=HD.o;have aN:True:=trivial;go_upto_region 2 with (go_at_call 30;refine CP.o.mono ?_;rintro e w2 ⟨⟨H,n,hn,rfl⟩,t⟩;have HX:=qI H;have Gx:=qI t;clear H t;unfold zeroA);have aA:¬ x=0:=XC HX.o.1;have aK:decide (x=0)=false:=decide_eq_false aA;have Gs:=qI ((Gx.o.alloc (.cells #[.int .i64 0,.int .i64 0,.string ⟨#[]⟩,.slice none 0 0,.slice none 0 0] 25)).heap Js.o Wz);have rz:=put6z Gs.o;obtain⟨r0,r1,r2,r3,r4,r5⟩:=yS Gs.o;go_wp2_with fail;change bodyPost _ _ _ _ _ (JE (w2.alloc (.cells #[.int .i64 0,.int .i64 0,.string ⟨#[]⟩,.slice none 0 0,.slice none 0 0] 25)) w.heap.size (.int .i64 0) (.int .i64 0) (.string ⟨#[]⟩) (.slice none 0 0) (.slice none 0 0) (.slice none 0 0));have O:=Zg (w2.alloc (.cells #[.int .i64 0,.int .i64 0,.string ⟨#[]⟩,.slice none 0 0,.slice none 0 0] 25)) w.heap.size (.int .i64 0) (.int .i64 0) (.string ⟨#[]⟩) (.slice none 0 0) (.slice none 0 0) (.slice none 0 0);have Z:=Ks Gs.o (.int .i64 0) (.int .i64 0) (.string ⟨#[]⟩) (.slice none 0 0) (.slice none 0 0) (.slice none 0 0);generalize JE (w2.alloc (.cells #[.int .i64 0,.int .i64 0,.string ⟨#[]⟩,.slice none 0 0,.slice none 0 0] 25)) w.heap.size (.int .i64 0) (.int .i64 0) (.string ⟨#[]⟩) (.slice none 0 0) (.slice none 0 0) (.slice none 0 0)=WF at O Z;obtain⟨y0,y1,y2,y3,y4,y5⟩:=yS Z;refine bodyPost_ret (v:=.tuple #[.agg #[.int .i64 0,.int .i64 0,.string ⟨#[]⟩,.slice none 0 0,.slice none 0 0,.slice none 0 0],.int .i64 x]) (by simp [results,results10,go_sem,y0,y1,y2,y3,y4,y5]) rfl ?_;exact⟨Gj.o x rfl _ _ rfl,((Gg.o.then Gx.o).alloc _).trans O (by intro i f;rw [List.mem_singleton] at f;subst f;exact .inr (XA))⟩
 | inr x=>
  simp only at CP HD;have Jl:Hid (zP 12 x):=qI (Gv.o x rfl);clear Gv;have Yk:Hid (W1.heap.size=w.heap.size+1):=Ja;go_upto_region 2 with (go_at_call 30;refine CP.o.mono ?_;rintro e w2 ⟨⟨cs,aI,rfl,ho⟩,t⟩;obtain⟨kp,np,sp,pp,ip,dp,qp,jp,ep,rfl⟩:=aI;have HO:=qI ho.rep;have Gx:=qI t;clear ho t);obtain⟨W3,Gn⟩:=XE (w2.alloc (.cells #[.int .i64 kp,.int .i64 np,.string sp,.slice pp ip dp,.slice qp jp ep] 25));have Jb:Hid (zb [] W1 W3):=qI (by rw [Gn.o];exact Gx.o.alloc _);have Jm:Hid (W3.heap[w2.heap.size]? = some (.cells #[.int .i64 kp,.int .i64 np,.string sp,.slice pp ip dp,.slice qp jp ep] 25 (0,0))):=qI (by rw [Gn.o];exact ze rfl);have Md:Hid (Rep 12 (fun g=>W1.heap.size≤g) W3 [.int .i64 kp,.int .i64 np,.string sp,.slice pp ip dp,.slice qp jp ep] x):=qI (by rw [Gn.o];exact HO.o.k0 ((zb.refl [] _).alloc _));have Jc:=qI Jb.o.size;refine xg Gn.o ?_;have CO:=qI (zbD (n:=11) Md.o);obtain⟨b0,b1,b2,b3,b4⟩:=qa Jm.o;clear HO Md Jm Gn CP;go_upto_region 5 with (go_at_call 31;refine CO.o.mono ?_;rintro e w4 ⟨⟨gf,au,rfl,a4⟩,a3⟩;have Ms:=qI au;have Jt:=qI a4;have Me:=qI (Jb.o.then a3);clear au a4 a3 b0 b1 b2 b3 b4);have CM:Hid (Calls prog 32 #[.pointer (some ⟨gf,0,none⟩),.string zan] w4 fun e w'=>Given 11 w4 w' e (fstE x).1∧Fld 11 w' gf x (fstE x).2∧zb [gf] w4 w'):=qI (fmap_any Jt.o Jl.o zan);have Mt:=qI Jt.o.lt;go_upto_region 6 with (go_at_call 32;refine CM.o.mono ?_;rintro e w5 ⟨R,ay,ak⟩;obtain⟨kd,u,st,B,D,E,p2,A,C,rfl,hr5⟩:=Given.repIn (n:=10) R;have Mf:=qI hr5;have Mg:=qI ay;have Jn:=qI ak;clear R hr5 ay ak);obtain⟨W6,Jd⟩:=XE (w5.alloc (.cells #[.int .i64 kd,.int .i64 u,.string st,.slice B D E,.slice p2 A C,.slice none 0 0] 28));have Gp:Hid (zb [] w5 W6):=qI (kA1 Jd.o);have Ju:Hid (jG W6 w5.heap.size kd u st (.slice B D E) (.slice p2 A C) (.slice none 0 0)):=qI (by rw [Jd.o];exact ze rfl);have Mh:=qI (Mf.o.k0 Gp.o);have Mi:=qI (Mg.o.k0 Gp.o);have Mu:Hid (W6.heap.size=w5.heap.size+1):=qI (by rw [Jd.o];simp);refine xg Jd.o ?_;have Gq:Hid (w.heap.size<gf∧gf<w4.heap.size∧w4.heap.size≤w5.heap.size):=qI ⟨by have:=Ja.o;have:=Jc.o;have:=Ms.o;omega,Mt.o,Jn.o.size⟩;obtain⟨G,Je⟩:=XE w5.heap.size;have Mj:Hid (zb [] W1 W6):=qI ((Me.o.trans Jn.o (by intro i f;rw [List.mem_singleton] at f;subst f;exact .inr (XH Ja.o Gq.o))).then Gp.o);rw [← Je.o] at Ju ⊢;have CL:Hid (Calls prog 33 #[.pointer (some ⟨gf,0,none⟩),.string Z8,.int .i64 16] W6 fun e w'=>Q9 11 W6 w' e (lstE x).1∧Fld 11 w' gf x (lstE x).2∧zb [gf] W6 w'):=qI (flist_any Mi.o Jl.o Z8 16);obtain⟨N,HN⟩:=XE ((itE x).length);have aD:(N:Int)≤16:=by have q:=itE_len x;have:=HN.o;omega
  have Jv:=qI aD;clear Mf Mg Jt CM CO Gp Jd Mi;go_wp2_with (go_at_call 33;refine CL.o.mono ?_;rintro e w7 ⟨a2,a8,a5⟩;obtain⟨ai,ci,lcs,he,hit⟩:=Q9.items (n:=10) a2;rw [show (QV (lstE x).1).length=N from HN.o.symm] at he;subst he;have Mv:Hid (Zz (fun g=>W6.heap.size≤g∧g<w7.heap.size) w7 ai ci (itE x) lcs):=qI hit;have Mw:=qI a8;have Jo:=qI a5;clear a2 a8 a5 hit);have Mx:=qI (Jo.o.heap Ju.o (by have:=Je.o;have:=Gq.o;simp;omega));have My:=qI (Mh.o.kept Jo.o (by intro i f;rw [List.mem_singleton] at f;subst f;have:=Gq.o;omega));have U:Hid (gf<G∧G<W6.heap.size∧W6.heap.size≤w7.heap.size):=qI ⟨by have:=Je.o;have:=Gq.o;omega,by have:=Je.o;have:=Mu.o;omega,Jo.o.size⟩;have Jf:Hid (zb [] W1 w7):=qI (Mj.o.trans Jo.o (by intro i f;rw [List.mem_singleton] at f;subst f;exact .inr (XH Ja.o Gq.o)));have Mz:=qI (Jf.o.heap Js.o Wz);have Ya:=HT;clear Ju Mh CL HT Mj Me Jb Jc;go_loopw [10,11,12,31] (fun _ _ _ ag wr=>∃ (k:Nat) (J:Option Addr) (I:Nat),ag = .int .i64 k∧k≤N∧Fld 11 wr gf x (Ke x k)∧jG wr G kd u st (.slice B D E) (.slice p2 A C) (.slice J k I)∧wr.ownsRow w7.heap.size 38 2 (.slice J k I) k (jH (((itE x).take k).map fun y=>(xO y).1))∧zb [gf,G] w7 wr) (fun _ _ _ ag _=>N-(intOf ag).toNat);case atStart=>exact⟨0,none,0,rfl,XB,by rw [show Ke x 0=(lstE x).2 by simp [Ke]];exact Mw.o,Mx.o,World.ownsRow_nil _ _ _ _,Wd⟩
  case round=>
   obtain⟨k,J,I,rfl,hk,hf,he,p,a6⟩:=hrel;have HF:=qI hf;have HE:=qI he;have Gc:=qI p;have Gy:=qI a6;clear hf he p a6;by_cases af:k<N
   ·have ab:k<(itE x).length:=by rw [← HN.o];exact af
    obtain⟨g,o,ys,py,cy,qy,my,dy,rfl,q0,q1,q2,q3,q4,a9⟩:=(Mv.o.kept Gy.o (by intro i f;have:=U.o;simp at f;rcases f with rfl | rfl <;> omega)).atR ab;have Jw:=qI a9;have Jp:Hid (zP 10 (itE x)[k]):=qI (itE_small Jl.o _ (List.getElem_mem _));have Jg:=qI (badE_succ x k ab);have Jq:=qI (rows_succ x k ab);clear a9;have aJ:(k:Int)<N:=Ws;have Gz:=qI af;generalize (itE x)[k]=y at q0 q1 q3 Jw Jp Jg Jq;clear ab af hk;go_upto_region 9 with fail;obtain⟨W8,Jr⟩:=XE (wr.alloc (.cells #[.int .i64 (jh 10 y),.int .i64 (numV 10 y),.string ys,.slice py (bI 10 y) cy,.slice qy my dy] 25));have Jx:Hid (zb [] wr W8):=qI (kA1 Jr.o);have Yb:Hid (W8.heap[wr.heap.size]? = some (.cells #[.int .i64 (jh 10 y),.int .i64 (numV 10 y),.string ys,.slice py (bI 10 y) cy,.slice qy my dy] 25 (0,0))):=qI (by rw [Jr.o];exact ze rfl);refine xg Jr.o ?_;have CO:=qI (zbD (n:=9) (Jw.o.k0 Jx.o));obtain⟨b0,b1,b2,b3,b4⟩:=qa Yb.o;clear Jr Jw q0 q1 q2 q3 q4;go_upto_region 11 with (go_at_call 31;refine CO.o.mono ?_;rintro e w9 ⟨⟨P,al,rfl,av⟩,ax⟩;have Yc:=qI al;have Mk:=qI av;have Jh:=qI (Jx.o.then ax);clear al av ax b0 b1 b2 b3 b4);obtain⟨s1,b1,W,b2,Ml,Mm,Mn⟩:∃ s1 b1 W b2,Hid (b9 (n:=9) y (decide ((y:VS (V 9)).kind≠6)) K1 64=(s1,b1))∧Hid (b9 (n:=9) y b1 K0 1048576=(W,b2))∧Hid (xO y=(⟨s1,W⟩,b2)):=⟨_,_,_,_,qI rfl,qI rfl,qI rfl⟩;have aH:Hid (Calls prog 34 #[.pointer (some ⟨P,0,none⟩),.string K1,.int .i64 64] w9.drew fun e w'=>e = .returned (.string s1)∧Fld 9 w' P y b1∧zb [P] w9.drew w'):=qI (by
     have q:=ftext_any (n:=9) (Mk.o.k0 (zb.refl [] w9).drew) Jp.o K1 64;rw [Ml.o] at q;exact q)
    have aF:Hid (∀ w2,Fld 9 w2 P y b1→Calls prog 34 #[.pointer (some ⟨P,0,none⟩),.string K0,.int .i64 1048576] w2 fun e w'=>e = .returned (.string W)∧Fld 9 w' P y b2∧zb [P] w2 w'):=qI (fun w2 h=>by
     have q:=ftext_any (n:=9) h Jp.o K0 1048576;rw [Mm.o] at q;exact q)
    rw [Mn.o] at Jg Jq;simp only at Jg Jq;have Gt:Hid (wr.heap.size≤P∧G<wr.heap.size∧w7.heap.size≤wr.heap.size):=qI ⟨by have:=Yc.o;have:=Jx.o.size;omega,by have:=U.o;have:=Gy.o.size;omega,Gy.o.size⟩;have Mo:=qI (Jh.o.heap HE.o Wz);have c5:=za (o:=5) Mo.o rfl;clear Jp CO Mk Ml Mm Mn;have HX:Hid (jH (((itE x).take k).map fun y=>(xO y).1)=jH (((itE x).take k).map fun y=>(xO y).1)):=qI rfl;go_region_law (first
     | (refine qc tySigs (base:=w7.heap.size) (v:=.slice J k I) (n:=k) (m:=1) (news:=[.string s1,.string W]) (xs:=jH (((itE x).take k).map fun y=>(xO y).1)) (zk Yd.o ((zb.refl [] wb).alloc (.cells #[.string s1,.string W] 38)) Wz) (yv wb [.string s1,.string W] 2 1 _ _ rfl rfl Wo) (by simp [Value.oneCell']) Wo (by have:=Gz.o;have:=Jv.o;simp only [maxLen];omega) (XH Gz.o Jv.o) (by have:=Gt.o;have:=Ji.o.size;have:=Jh.o.size;simp;omega) Wk _ _ Wk Wk Wk ?_;intro K c2 s X t aB;have Jj:=qI X;have Gw:=qI t;have aa:=t.heap (((zb.refl [] wb).alloc (.cells #[.string s1,.string W] 38)).heap Mp.o Wz) (fun H=>Mq.o _ (XD H) (.inl rfl));have u0:=za (o:=5) aa rfl;have uf:=zh (o:=5) aa;have Jy:=qI aa;clear aa X t aB)
     | (go_simp;refine (aF.o _ Ye.o).mono ?_;rintro e wb ⟨rfl,ao,a1⟩;have Yf:=qI ao;have Ji:Hid (zb [P] w9 wb):=qI (Mr.o.trans' a1);have Mp:=qI (Ji.o.heap Mo.o (by have:=Gt.o;simp;omega));have Yd:=qI (zk (zk Gc.o Jh.o Wz) Ji.o (fun b M H=>by have q:=(Gc.o.lt b M).2;have:=Gt.o;rw [List.mem_singleton] at H;omega));have Mq:Hid (∀ b,(Value.slice J k I).ownBlock=some b→(b=G∨b=P∨b=gf)→False):=qI (fun b M H=>by have q:=Gc.o.lt b M;have:=Gt.o;have:=U.o;omega);have az:=za (o:=5) Mp.o rfl;have aE:=fun cs=>((zb.refl [] wb).alloc (.cells cs 38)).cell az Wz;clear ao a1)
     | (go_simp;refine aH.o.mono ?_;rintro e wa ⟨rfl,an,am⟩;have Ye:=qI an;have Mr:Hid (zb [P] w9 wa):=qI (((zb.refl [] w9).drew.mono Wz).trans' am);have aG:=Mr.o.cell c5 (by have:=Gt.o;simp;omega);clear an am))
    all_goals
     obtain⟨aM,a7,R⟩:=Yf.o.bad5;have Q:zb [G] s (s.setCell ⟨G,5,none⟩ (.slice (some ⟨K,0,none⟩) (k+1) c2)):=(zb.refl _ s).setCell (.inl Wz) _;have Jz:Hid (jG (s.setCell ⟨G,5,none⟩ (.slice (some ⟨K,0,none⟩) (k+1) c2)) G kd u st (.slice B D E) (.slice p2 A C) (.slice (some ⟨K,0,none⟩) (k+1) c2)):=qI (zd (i:=5) (v:=.slice (some ⟨K,0,none⟩) (k+1) c2) (d:=#[.int .i64 kd,.int .i64 u,.string st,.slice B D E,.slice p2 A C,.slice (some ⟨K,0,none⟩) (k+1) c2]) Jy.o rfl);have Gd:Hid ((s.setCell ⟨G,5,none⟩ (.slice (some ⟨K,0,none⟩) (k+1) c2)).ownsRow w7.heap.size 38 2 (.slice (some ⟨K,0,none⟩) (k+1) c2) (k+1) (jH (((itE x).take (k+1)).map fun y=>(xO y).1))):=qI (by
      rw [Jq.o];exact zk Jj.o Q (fun b M H=>by have q:=(Jj.o.lt b M).1;have:=U.o;rw [List.mem_singleton] at H;omega))
     have Ma:Hid (Fld 11 (s.setCell ⟨G,5,none⟩ (.slice (some ⟨K,0,none⟩) (k+1) c2)) gf x (Ke x k)):=qI (((((HF.o.k0 Jh.o).kept Ji.o (by intro i f;rw [List.mem_singleton] at f;have:=Gt.o;have:=U.o;omega)).k0 ((zb.refl [] wb).alloc (.cells #[.string s1,.string W] 38))).kept Gw.o (fun i f=>by have q:=(Gc.o.lt i (XD f)).1;have:=U.o;omega)).kept Q (by intro i f;rw [List.mem_singleton] at f;have:=U.o;omega));have g5:(s.setCell ⟨G,5,none⟩ (.slice (some ⟨K,0,none⟩) (k+1) c2)).cell? ⟨P,5,none⟩=some (.bool b2):=Q.cell (Gw.o.cell (((zb.refl [] wb).alloc (.cells #[.string s1,.string W] 38)).cell (za (o:=5) a7 R) Wz) (fun H=>Mq.o _ (XD H) (.inr (.inl rfl)))) (by have:=Gt.o;simp;omega);have Gm:Hid (zb [gf,G] w7 (s.setCell ⟨G,5,none⟩ (.slice (some ⟨K,0,none⟩) (k+1) c2))):=qI (((((Gy.o.then Jh.o).trans Ji.o (by intro i f;rw [List.mem_singleton] at f;subst f;exact .inr (XC Gt.o))).alloc (.cells #[.string s1,.string W] 38)).trans Gw.o (fun i f=>.inr (Gc.o.lt i (XD f)).1)).trans Q (by intro i f;rw [List.mem_singleton] at f;subst f;exact .inl Wz));generalize (s.setCell ⟨G,5,none⟩ (.slice (some ⟨K,0,none⟩) (k+1) c2))=WF at Jz Gd Ma g5 Gm ⊢;have CD:=qI (cellDone_any g5);clear Q a7 R g5 u0 uf c5 aG az aE;cases b2 with
     | false=>rw [doneZ_no] at CD;go_wp2_with (go_at_call 35;refine CD.o.mono ?_;rintro e ad ⟨rfl,rfl⟩);case roundEnd=>exact⟨⟨k+1,some ⟨K,0,none⟩,c2,by go_num,Gz.o,by rw [Jg.o,Bool.or_false];exact Ma.o,Jz.o,Gd.o,Gm.o⟩,by have:=Gz.o;simp [intOf];omega⟩
     | true=>
      rw [doneZ_yes] at CD;go_wp2_with first
       | (go_at_call 35;refine CD.o.mono ?_;rintro e ad ⟨rfl,rfl⟩)
       | (go_at_call 36;refine (Qp Ma.o).mono ?_;rintro e F ⟨rfl,a0,aq⟩;have Yg:=qI a0;have Mb:=qI aq;clear a0 aq)
      case roundEnd=>exact⟨⟨k+1,some ⟨K,0,none⟩,c2,by go_num,Gz.o,by rw [Jg.o,Bool.or_true];exact Yg.o,Mb.o.heap Jz.o (by have:=U.o;simp;omega),zk Gd.o Mb.o (fun b M H=>by have q:=(Gd.o.lt b M).1;have:=U.o;rw [List.mem_singleton] at H;omega),Gm.o.trans Mb.o (by intro i f;rw [List.mem_singleton] at f;subst f;exact .inl Wz)⟩,by have:=Gz.o;simp [intOf];omega⟩
   ·obtain rfl:k=N:=by omega
    have aL:¬ (k:Int)<k:=Ws;have Gm:Hid (zb [] W1 wr):=qI (Jf.o.trans Gy.o (by intro i f;simp at f;have:=Ja.o;have:=Gq.o;have:=U.o;rcases f with rfl | rfl <;> exact .inr Ws));have Y:(vW x).length=k:=by unfold vW;rw [List.length_map];exact HN.o.symm
    have aw:((itE x).take k).map (fun y=>(xO y).1)=vW x:=by rw [List.take_of_length_le (by rw [← HN.o];exact XA)];rfl
    have p:=Gc.o;rw [aw] at p;have Gu:Hid (∀ WF,zb [w.heap.size] wr WF→Env 11 (fun _=>True) WF [.int .i64 kd,.int .i64 u,.string st,.slice B D E,.slice p2 A C] (zam x) J I (vW x)):=qI (fun WF ap=>⟨((My.o.kept Gy.o (by intro i f;simp at f;have:=Gq.o;have:=Je.o;rcases f with rfl | rfl <;> omega)).kept ap (by intro i f;rw [List.mem_singleton] at f;have:=Gq.o;omega)).mono (fun _ _ _=>trivial),fmap_small (n:=10) Jl.o,Wo,by unfold xT;rw [Y];exact Slc.of_row (zk p ap (fun b M H=>by have q:=(Gc.o.lt b M).1;have:=U.o;have:=Gq.o;rw [List.mem_singleton] at H;omega)),fun r hr=>by
     obtain⟨y,-,rfl⟩:=List.mem_map.1 hr;have q:=readRow_small y;exact⟨Ws,Ws⟩,by rw [Y];have:=Jv.o;omega⟩)
    have Jk:=qI (Gu.o wr (zb.refl [w.heap.size] wr));have Gd:=qI (Gm.o.heap Js.o Wz);have Yh:Hid (xH wr):=qI (Ya.o.k0 Gm.o);have ae:Hid (zJ wr 21 #[.agg #[.int .i64 kd,.int .i64 u,.string st,.slice B D E,.slice p2 A C,.slice J k I]] (.bool (yf 11 (zam x) (vW x)))):=qI (by
     have q:=qF Jk.o Yh.o;rw [Y] at q;exact q)
    have L:=qI (fdone_any HF.o);obtain⟨bd,aj⟩:=XF (Ke x k);obtain⟨my,ah⟩:=XF (yf 11 (zam x) (vW x));have Mc:Hid (DB=if bd=false∧my=true then .inr (zam x,vW x) else .inl 130):=qI (by rw [HD.o,← HN.o,← aj,← ah]);rw [← aj] at L;rw [← ah] at ae;have Yi:=qI Y;clear p aw Y aj ah Gc Jk;obtain⟨c0,c1,c2,c3,c4,c5⟩:=yS HE.o;cases bd with
    | true=>rw [doneZ_yes] at L;clear c0 c1 c2 c3 c4 c5;obtain⟨r0,r1,r2,r3,r4,r5⟩:=yS Gd.o;have rz:=put6z Gd.o;go_wp2_with (go_at_call 35;refine L.o.mono ?_;rintro e ad ⟨rfl,rfl⟩);change bodyPost _ _ _ _ _ (JE wr w.heap.size (.int .i64 0) (.int .i64 0) (.string ⟨#[]⟩) (.slice none 0 0) (.slice none 0 0) (.slice none 0 0));have O:=Zg wr w.heap.size (.int .i64 0) (.int .i64 0) (.string ⟨#[]⟩) (.slice none 0 0) (.slice none 0 0) (.slice none 0 0);have Z:=Ks Gd.o (.int .i64 0) (.int .i64 0) (.string ⟨#[]⟩) (.slice none 0 0) (.slice none 0 0) (.slice none 0 0);generalize JE wr w.heap.size (.int .i64 0) (.int .i64 0) (.string ⟨#[]⟩) (.slice none 0 0) (.slice none 0 0) (.slice none 0 0)=WF at O Z;obtain⟨y0,y1,y2,y3,y4,y5⟩:=yS Z;refine bodyPost_ret (v:=.tuple #[.agg #[.int .i64 0,.int .i64 0,.string ⟨#[]⟩,.slice none 0 0,.slice none 0 0,.slice none 0 0],.int .i64 130]) (by simp [results,results10,go_sem,y0,y1,y2,y3,y4,y5]) rfl ?_;exact⟨Gj.o 130 (by rw [Mc.o];simp) _ _ rfl,(Gg.o.then Gm.o).trans O (by intro i f;rw [List.mem_singleton] at f;subst f;exact .inr (XA))⟩
    | false=>
     rw [doneZ_no] at L;cases my with
     | false=>
      go_wp2_with first
       | (go_at_call 35;refine L.o.mono ?_;rintro e ad ⟨rfl,rfl⟩)
       | (go_at_call 21;refine ae.o.mono ?_;rintro e F ⟨rfl,j⟩;have Gr:=qI j;have z:=qI (j.heap Gd.o Wz);have Ge:=qI (j.heap HE.o Wz);clear j c0 c1 c2 c3 c4 c5;have r0:=za (o:=0) z.o rfl;have r1:=za (o:=1) z.o rfl;have r2:=za (o:=2) z.o rfl;have r3:=za (o:=3) z.o rfl;have r4:=za (o:=4) z.o rfl;have r5:=za (o:=5) z.o rfl;have rz:=put6z z.o)
      change bodyPost _ _ _ _ _ (JE F w.heap.size (.int .i64 0) (.int .i64 0) (.string ⟨#[]⟩) (.slice none 0 0) (.slice none 0 0) (.slice none 0 0));have O:=Zg F w.heap.size (.int .i64 0) (.int .i64 0) (.string ⟨#[]⟩) (.slice none 0 0) (.slice none 0 0) (.slice none 0 0);have Z:=Ks z.o (.int .i64 0) (.int .i64 0) (.string ⟨#[]⟩) (.slice none 0 0) (.slice none 0 0) (.slice none 0 0);generalize JE F w.heap.size (.int .i64 0) (.int .i64 0) (.string ⟨#[]⟩) (.slice none 0 0) (.slice none 0 0) (.slice none 0 0)=WF at O Z;obtain⟨y0,y1,y2,y3,y4,y5⟩:=yS Z;refine bodyPost_ret (v:=.tuple #[.agg #[.int .i64 0,.int .i64 0,.string ⟨#[]⟩,.slice none 0 0,.slice none 0 0,.slice none 0 0],.int .i64 130]) (by simp [results,results10,go_sem,y0,y1,y2,y3,y4,y5]) rfl ?_;exact⟨Gj.o 130 (by rw [Mc.o];simp) _ _ rfl,((Gg.o.then Gm.o).then Gr.o).trans O (by intro i f;rw [List.mem_singleton] at f;subst f;exact .inr (XA))⟩
     | true=>
      have Yj:Hid (DB = .inr (zam x,vW x)):=qI (by rw [Mc.o];simp);go_wp2_with first
       | (go_at_call 35;refine L.o.mono ?_;rintro e ad ⟨rfl,rfl⟩)
       | (go_at_call 21;refine ae.o.mono ?_;rintro e F ⟨rfl,j⟩;have Gr:=qI j;have z:=qI (j.heap Gd.o Wz);have Ge:=qI (j.heap HE.o Wz);clear j c0 c1 c2 c3 c4 c5;have r0:=za (o:=0) z.o rfl;have r1:=za (o:=1) z.o rfl;have r2:=za (o:=2) z.o rfl;have r3:=za (o:=3) z.o rfl;have r4:=za (o:=4) z.o rfl;have r5:=za (o:=5) z.o rfl;have rz:=put6z z.o;have x0:=za (o:=0) Ge.o rfl;have x1:=za (o:=1) Ge.o rfl;have x2:=za (o:=2) Ge.o rfl;have x3:=za (o:=3) Ge.o rfl;have x4:=za (o:=4) Ge.o rfl;have x5:=za (o:=5) Ge.o rfl)
      change bodyPost _ _ _ _ _ (JE F w.heap.size (.int .i64 kd) (.int .i64 u) (.string st) (.slice B D E) (.slice p2 A C) (.slice J k I));have O:=Zg F w.heap.size (.int .i64 kd) (.int .i64 u) (.string st) (.slice B D E) (.slice p2 A C) (.slice J k I);have Z:=Ks z.o (.int .i64 kd) (.int .i64 u) (.string st) (.slice B D E) (.slice p2 A C) (.slice J k I);generalize JE F w.heap.size (.int .i64 kd) (.int .i64 u) (.string st) (.slice B D E) (.slice p2 A C) (.slice J k I)=WF at O Z;obtain⟨y0,y1,y2,y3,y4,y5⟩:=yS Z;refine bodyPost_ret (v:=.tuple #[.agg #[.int .i64 kd,.int .i64 u,.string st,.slice B D E,.slice p2 A C,.slice J k I],.int .i64 0]) (by simp [results,results10,go_sem,y0,y1,y2,y3,y4,y5]) rfl ?_;exact (by
       have q:=Gk.o (zam x) (vW x) Yj.o kd u st B D E p2 A C J I WF (Gu.o WF ((Gr.o.mono Wz).trans' O));rw [Yi.o] at q;exact⟨q,((Gg.o.then Gm.o).then Gr.o).trans O (by intro i f;rw [List.mem_singleton] at f;subst f;exact .inr (XA))⟩)
theorem read_sigV {r:yh}(e:r.id.size≤64)(h2:r.sig.size≤1048576):xO (jD r)=(r,false):=by
 have d:b9 (n:=9) (jD r:VS (V 9)) false K1 64=(r.id,false):=gtext_pos (n:=9) (x:=(q8 r.id:VS (V 8))) Wk Wk (by show (r.id.size:Int)≤64;omega);have b:b9 (n:=9) (jD r:VS (V 9)) false K0 1048576=(r.sig,false):=gtext_pos (n:=9) (x:=(q8 r.sig:VS (V 8))) Wk Wk (by show (r.sig.size:Int)≤1048576;omega);have a:decide ((jD r:VS (V 9)).kind≠6)=false:=rfl;unfold xO;rw [a,d];simp only;rw [b]
theorem fst_env (l:List yh)(b:jh 11 v=6):fstE (qg v l)=(some v,false):=by
 have a:decide ((qg v l:VS (V 11)).kind≠6)=false:=rfl;unfold fstE;rw [a];exact gmap_pos (n:=11) Wk b
theorem lst_env (a:jh 11 v=6)(b:l.length≤16):lstE (qg v l)=(some (ju (l.map jD):VS (V 10)),false):=by
 unfold lstE;rw [fst_env l a];refine glist_pos (n:=11) Wk Wk ?_;have e:bI 11 (ju (l.map jD):VS (V 10))=l.length:=by show (l.map jD).length=_;rw [List.length_map]
 rw [e];omega
theorem it_env (a:jh 11 v=6)(b:l.length≤16):itE (qg v l)=l.map jD:=by
 unfold itE;rw [lst_env a b];rfl
theorem decE_env (hp:xI b = .inr (qg v l))(d:jh 11 v=6)(f:l.length≤16)(a:∀ r,r∈l→r.id.size≤64∧r.sig.size≤1048576)(hm:yf 11 v l=true):zaP b = .inr (v,l):=by
 have j:zam (qg v l)=v:=by unfold zam;rw [fst_env l d];rfl
 have e:vW (qg v l)=l:=by unfold vW;rw [it_env d f,List.map_map];refine (List.map_congr_left (g:=id) fun r h=>?_).trans (List.map_id _);show (xO (jD r)).1=r;rw [read_sigV (a r h).1 (a r h).2]
 have i:Ke (qg v l) (itE (qg v l)).length=false:=by unfold Ke;rw [lst_env d f,List.take_length,it_env d f,Bool.false_or,List.any_eq_false];intro y k;obtain⟨r,h,rfl⟩:=List.mem_map.1 k;rw [read_sigV (a r h).1 (a r h).2];exact Bool.false_ne_true
 unfold zaP;rw [hp];simp only;rw [j,e,i,hm];rfl
theorem decE_one:zaP (xR 12 (qg v0 [rS])).1 = .inr (v0,[rS]):=by
 have a:=rS_id;have h2:=QT;refine decE_env (dec_one a.2.1 h2.2.1 (by rw [a.1,h2.1];decide)) Wk Wz (fun r b=>?_) zay;rw [List.mem_singleton] at b;rw [b,a.1,h2.1];decide
theorem small_one:zP 12 (qg v0 [rS]):=by
 refine⟨by show (7:Nat)≤20000;decide,?_⟩;rw [bytes_one,rS_id.1,QT.1];decide
theorem small_none:zP 12 (qg v0 []):=⟨by show (4:Nat)≤20000;decide,by show (25:Nat)≤400000;decide⟩
theorem parse_braces:xI [123,125] = .inr (vf []:VS (V 11)):=by
 have e:zr 12 (vf []:VS (V 11))=[123,125]:=Wk;have b:zI 12 (vf []:VS (V 11))=(vf []:VS (V 11)):=by show (⟨6,0,_,_,List.mergeSort [] _⟩:VS (V 11))=_;rw [List.mergeSort_nil];rfl
 have hc:zY 12 (vf []:VS (V 11))=0:=qh.2 ⟨by show (1:Nat)≤12;decide,by show (1:Nat)≤4096;decide,vJ (n:=11) [] Wz Wz Wz⟩;have a:xR 12 (vf []:VS (V 11))=([123,125],0):=Qn.2 ⟨hc,by rw [b,e];decide,by rw [b,e]⟩;have h:=(dec_enc a).2.1;rw [b] at h;exact h
theorem decE_braces:zaP [123,125] = .inl 130:=by
 have b:fstE (vf []:VS (V 11))=(none,true):=Wk;have d:lstE (vf []:VS (V 11))=(none,true):=by unfold lstE;rw [b];rfl
 have a:∀ k,Ke (vf []:VS (V 11)) k=true:=fun k=>by unfold Ke;rw [d];rfl
 unfold zaP;rw [parse_braces];simp only;rw [a];rfl
theorem kind_v0:Qw v0 Z9=some (q8 YM:VS (V 9)):=Wk
attribute [local go_sem] Oper.semAt_some
theorem kind_any {w:World}{cs:List Value}{v:VS (V n)}{c:Nat}(h:Env (n+1) S w cs v a c l){x:V n}(B:Qw v Z9=some x)(E:jh n x=4) : zJ w 19 #[.agg (YJ cs a l.length c).toArray] (.string (Zx n x)):=by
 obtain⟨kd,r,st,s,j,k,p2,p,i,rfl⟩:=h.rep.conv;obtain⟨b,q⟩:=XE (w.alloc (.cells #[.int .i64 kd,.int .i64 r,.string st,.slice s j k,.slice p2 p i,.slice a l.length c] 28));have D:Hid (zb [] w b):=qI (kA1 q.o);have d:Hid (jG b w.heap.size kd r st (.slice s j k) (.slice p2 p i) (.slice a l.length c)):=qI (by rw [q.o];exact ze rfl);have y:Hid (Calls prog 61 #[.agg #[.int .i64 kd,.int .i64 r,.string st,.slice s j k,.slice p2 p i],.string Z9] b fun e u=>GetAns n b.heap.size u e (some x)∧zb [] b u):=qI (by
  have A:=get_any (h.rep.k0 D.o) h.small Z9;rw [B] at A;exact A)
 have c0:=za (o:=0) d.o rfl;have c1:=za (o:=1) d.o rfl;have c2:=za (o:=2) d.o rfl;have c3:=za (o:=3) d.o rfl;have c4:=za (o:=4) d.o rfl;clear h B;show Calls _ _ #[.agg #[.int .i64 kd,.int .i64 r,.string st,.slice s j k,.slice p2 p i,.slice a l.length c]] _ _;generalize l.length=m at q d ⊢;go_enter func19,ntmps19;go_upto_region 1 with fail;refine xg q.o ?_;go_upto_region 2 with (go_at_call 61;refine y.o.mono ?_;rintro e w2 ⟨⟨I,rfl,C⟩,f⟩;obtain⟨s',p',c',q',j',d',rfl,rfl⟩:=C.rep.gone;rw [E];have G:=qI f;clear C f);obtain⟨z,t⟩:=XE (w2.alloc (.cells #[.int .i64 4,.int .i64 (numV n x),.string (Zx n x),.slice p' (bI n x) c',.slice q' j' d'] 25));have H:Hid (zb [] b z):=qI (by rw [t.o];exact G.o.alloc _);have F:Hid (z.heap[w2.heap.size]? = some (.cells #[.int .i64 4,.int .i64 (numV n x),.string (Zx n x),.slice p' (bI n x) c',.slice q' j' d'] 25 (0,0))):=qI (by rw [t.o];exact ze rfl);refine xg t.o ?_;obtain⟨L,J,b2,b3,K⟩:=qa F.o;clear c0 c1 c2 c3 c4 y;go_wp2;go_ret;exact⟨rfl,D.o.then H.o⟩
theorem holdsPast_any {w:World}{cs:List Value}{v:V n}{c:Nat}(h:Env n S w cs v a c l)(I:xH w)(j:yf n v l=true)(k:yX)(i:Nat)(B:l.length≤i)(W:i≤1000000) : zJ w 17 #[.agg (YJ cs a l.length c).toArray,.int .i64 i,.agg (yU k)] (.bool false):=by
 obtain⟨kd,z,st,t,y,q,p2,s,p,rfl⟩:=h.rep.conv;obtain⟨C,A⟩:=XE ((w.alloc (.cells #[.int .i64 kd,.int .i64 z,.string st,.slice t y q,.slice p2 s p,.slice a l.length c] 28)).alloc (.cells (yU k) 51));have E:Hid (zb [] w C):=qI (kA2 A.o);have L:Hid (C.heap[w.heap.size]? = some (.cells #[.int .i64 kd,.int .i64 z,.string st,.slice t y q,.slice p2 s p,.slice a l.length c] 28 (0,0))):=qI (by rw [A.o];exact ((zb.refl [] _).alloc _).heap (ze rfl) Wz);have K:Hid (yL C 21 #[.agg #[.int .i64 kd,.int .i64 z,.string st,.slice t y q,.slice p2 s p,.slice a l.length c]] (.bool true)):=qI (fun w2 F=>by
  have H:=qF (h.k0 (E.o.then F)) (I.k0 (E.o.then F));rw [j] at H;exact H)
 have D:(l.length:Int)≤i:=Ws;have G:(i:Int)≤1000000:=Ws;clear h I j;generalize l.length=m at A L K B D ⊢;have ag:decide (m≤i)=true:=decide_eq_true B;clear B;obtain⟨c0,c1,c2,c3,c4,c5⟩:=yS L.o;show Calls _ _ #[.agg #[.int .i64 kd,.int .i64 z,.string st,.slice t y q,.slice p2 s p,.slice a m c],.int .i64 i,.agg (yU k)] _ _;go_enter func17,ntmps17;go_upto_region 1 with fail;refine xg A.o ?_;go_wp2
 refine yz (n:=61) 24 [fI (.agg #[.int .i64 kd,.int .i64 z,.string st,.slice t y q,.slice p2 s p,.slice a m c]),
  fT,
  fF,
  fF,
  fI (.int .i64 i),
  fF,
  fF,
  fF,
  fI (.int .i64 i),
  fI (.pointer (some ⟨w.heap.size,5,none⟩)),
  fI (.slice a m c),
  fI (.int .i64 m),
  fT,
  fT,
  fT,
  fU,
  fU,
  fU,
  fU,
  fU,
  fU,
  fU,
  fU,
  fU] Wr rfl Wr (fun x=>qm) ?_ ?_
 ·refine⟨?_,?_,?_,?_,?_,?_,?_,?_,?_,?_,?_,?_,?_,?_,?_,?_,?_,?_,?_,?_,?_,?_,?_,?_,trivial⟩ <;> intro x w2 d b hd;·have y0:=d.cell c0 Wz;have y1:=d.cell c1 Wz;have y2:=d.cell c2 Wz;have y3:=d.cell c3 Wz;have y4:=d.cell c4 Wz;have y5:=d.cell c5 Wz;exact zi
  ·have d0:x 0=_:=hd 0 Wr;have d0:x 0=_:=hd 0 Wr;have CX:=K.o _ d;go_wp2_with (go_at_call 21;refine CX.mh ?_;rintro e w5 rfl N);exact⟨rfl,N.o⟩
  ·have q:x 1=_:=hd 1 Wr;exact zi
  ·have p:x 2=_:=hd 2 Wr;exact zi
  ·have J:x 3=_:=hd 3 Wr;exact zi
  ·have J:x 3=_:=hd 3 Wr;have d4:x 4=_:=hd 4 Wr;exact zi
  ·have J:x 3=_:=hd 3 Wr;have d5:x 5=_:=hd 5 Wr;exact zi
  ·have d6:x 6=_:=hd 6 Wr;exact zi
  ·have r:x 7=_:=hd 7 Wr;exact zi
  ·have r:x 7=_:=hd 7 Wr;exact zi
  ·have r:x 7=_:=hd 7 Wr;have d9:x 9=_:=hd 9 Wr;have y5:=d.cell c5 Wz;exact zi
  ·have r:x 7=_:=hd 7 Wr;have ah:x 10=_:=hd 10 Wr;exact zi
  ·have r:x 7=_:=hd 7 Wr;have d8:x 8=_:=hd 8 Wr;have ab:x 11=_:=hd 11 Wr;exact zi
  ·have r:x 7=_:=hd 7 Wr;have Z:x 12=_:=hd 12 Wr;exact zi
  ·have X:x 13=_:=hd 13 Wr;exact zi
  ·have f:x 14=_:=hd 14 Wr;exact zi
  ·have f:x 14=_:=hd 14 Wr;have R:x 15=_:=hd 15 Wr;exact zi
  ·have f:x 14=_:=hd 14 Wr;exact zi
  ·have f:x 14=_:=hd 14 Wr;have O:x 16=_:=hd 16 Wr;have aa:x 17=_:=hd 17 Wr;exact zi
  ·have f:x 14=_:=hd 14 Wr;have P:x 18=_:=hd 18 Wr;exact zi
  ·have f:x 14=_:=hd 14 Wr;have Q:x 19=_:=hd 19 Wr;exact zi
  ·have f:x 14=_:=hd 14 Wr;exact zi
  ·have f:x 14=_:=hd 14 Wr;have ad:x 21=_:=hd 21 Wr;exact zi
  ·have f:x 14=_:=hd 14 Wr;have ae:x 20=_:=hd 20 Wr;have M:x 22=_:=hd 22 Wr;exact zi
 ·intro x U d af hd u;have f:x 14=_:=hd 14 Wo;have Y:=qI d;clear hd u d;change wpList _ _ _ [_] _ _;go_wp2;go_ret;exact⟨rfl,E.o.then Y.o⟩
end Go.Proofs.YtjccecajigmfkaaGreatDoor

/- Parts of one proof, merged: XKD. -/
import Derived.Test.YtjccecajigmfkaaGreatDoorSgF
set_option linter.all false
set_option maxHeartbeats 12800000
set_option maxRecDepth 10000
namespace Go.Proofs.YtjccecajigmfkaaGreatDoor
open Go.Proofs.Tryz
open Go.RowKit
variable {k n:Nat}{α:Type}{r:α→α→Bool}{xs ys:List α}
theorem jq {w:World}{g:Nat}(d:w.heap.size=g)(k m:Int)(s:ByteArray)(a b:Value)(t:Nat):yZ (w.alloc (.cells #[.int .i64 k,.int .i64 m,.string s,a,b] t)) g k m s a b:=by
 subst d;exact xr w k m s a b t
theorem drop_cons {l:List α}(h:k<l.length):l.drop k=l[k]::l.drop (k+1):=List.drop_eq_getElem_cons h
theorem Ko (h:k<xs.length)(a:k<ys.length):eqL r (xs.drop k) (ys.drop k)=(r xs[k] ys[k]&&eqL r (xs.drop (k+1)) (ys.drop (k+1))):=by
 rw [drop_cons h,drop_cons a];rfl
theorem zav (h:xs.length=ys.length):eqL r (xs.drop xs.length) (ys.drop xs.length)=true:=by
 rw [List.drop_length,h,List.drop_length];rfl
theorem KI {α:Type}{r:α→α→Bool}:∀ {xs ys:List α},xs.length≠ys.length→eqL r xs ys=false
 | [],[],h=>absurd rfl h
 | [],_::_,_=>rfl
 | _::_,[],_=>rfl
 | x::xs,y::ys,h=>by show (r x y&&eqL r xs ys)=false;rw [KI (fun e=>h (by simp [e]))];simp
theorem eqV_eq (a b:VS (V n)):eqV (n+1) a b=(decide (a.kind=b.kind)&&decide (a.num=b.num)&&decide (a.s=b.s)&&eqL (eqV n) a.l b.l&&eqL (fun p q=>decide (p.1=q.1)&&eqV n p.2 q.2) a.m b.m):=rfl
def vX (n : Nat) : Prop := ∀ (va vb : V n) {S T : Nat → Prop} {w : World} {ca cb : List Value}, Rep n S w ca va → Rep n T w cb vb → zP n va →
    Calls prog 42 #[.agg ca.toArray,.agg cb.toArray] w fun e w'=>e = .returned (.bool (eqV n va vb))∧zb [] w w'
theorem zbF (ab:vX n):vX (n+1):=fun (va:VS (V n)) (vb:VS (V n)) {S}{T}{w}{ca}{cb} h h' hs=>by
  have Gn:=qI h;have Gl:=qI h';have Gm:=qI hs;obtain⟨vl,vm,lcs,mcs,h⟩:=h;obtain⟨a,c,b,e,rfl,rfl,rfl⟩:=h.forms;have H:=qI h;obtain⟨a8,a7,a3,a4,h'⟩:=h';obtain⟨a',c',b',e',rfl,rfl,rfl⟩:=h'.forms;have H':=qI h';have IH:=qI ab;have Ge:=qI (eqV_eq va vb);obtain⟨W2,L⟩:=XE ((w.alloc (.cells #[.int .i64 va.kind,.int .i64 va.num,.string va.s,.slice a va.l.length c,.slice b va.m.length e] 25)).alloc (.cells #[.int .i64 vb.kind,.int .i64 vb.num,.string vb.s,.slice a' vb.l.length c',.slice b' vb.m.length e'] 25));have Gc:Hid (zb [] w W2):=qI (kA2 L.o);have HB:Hid (yZ W2 w.heap.size va.kind va.num va.s (.slice a va.l.length c) (.slice b va.m.length e)):=qI (by rw [L.o];exact (xr w _ _ _ _ _ _).k0 ((zb.refl [] _).alloc _));have Gk:Hid (yZ W2 (w.heap.size+1) vb.kind vb.num vb.s (.slice a' vb.l.length c') (.slice b' vb.m.length e')):=qI (by rw [L.o];exact jq Wz _ _ _ _ _ _);have aC:va.l.length≤20000:=XC hs.few;have aB:va.m.length≤20000:=XC hs.few;obtain⟨c0,c1,c2,c3,c4⟩:=HB.o;obtain⟨d0,d1,Z,N,Q⟩:=Gk.o;rw [L.o] at c0 c1 c2 c3 c4 d0 d1 Z N Q;clear h h' hs;by_cases d:va.kind=vb.kind;rotate_left;·obtain⟨f1,f2⟩:=zR d;have X:Hid (eqV (n+1) va vb=false):=qI (by rw [Ge.o];simp [d]);clear d;go_enter func42,ntmps42;go_wp2;go_ret;rw [X.o,← L.o];exact⟨rfl,Gc.o⟩
  obtain⟨U,W⟩:=xw d;have P:=qI d;clear d;by_cases j:va.num=vb.num;rotate_left;·obtain⟨f1,f2⟩:=zR j;have X:Hid (eqV (n+1) va vb=false):=qI (by rw [Ge.o];simp [j]);clear j;go_enter func42,ntmps42;go_wp2;go_ret;rw [X.o,← L.o];exact⟨rfl,Gc.o⟩
  obtain⟨ai,an⟩:=xw j;have ak:=qI j;clear j;by_cases t:va.s=vb.s;rotate_left;·obtain⟨f1,f2⟩:=jS t;have X:Hid (eqV (n+1) va vb=false):=qI (by rw [Ge.o];simp [t]);clear t;go_enter func42,ntmps42;go_wp2;go_ret;rw [X.o,← L.o];exact⟨rfl,Gc.o⟩
  obtain⟨af,ag⟩:=vu t;have am:=qI t;clear t;by_cases D:va.l.length=vb.l.length;rotate_left;·obtain⟨f1,f2⟩:=jQ D;have X:Hid (eqV (n+1) va vb=false):=qI (by rw [Ge.o,KI D];simp);clear D;go_enter func42,ntmps42;go_wp2;go_ret;rw [X.o,← L.o];exact⟨rfl,Gc.o⟩
  obtain⟨ar,au⟩:=YT D;have C:=qI D;clear D;by_cases E:va.m.length=vb.m.length;rotate_left;·obtain⟨f1,f2⟩:=jQ E;have X:Hid (eqV (n+1) va vb=false):=qI (by rw [Ge.o,KI E];simp);clear E;go_enter func42,ntmps42;go_wp2;go_ret;rw [X.o,← L.o];exact⟨rfl,Gc.o⟩
  obtain⟨ao,av⟩:=YT E;have G:=qI E;clear E;have Gi:Hid (eqV (n+1) va vb=(eqL (eqV n) va.l vb.l&&eqL (fun p q=>decide (p.1=q.1)&&eqV n p.2 q.2) va.m vb.m)):=qI (by rw [Ge.o];simp [P.o,ak.o,am.o]);have a9:(vb.l.length:Int)≤20000:=XC C.o;go_enter func42,ntmps42;go_wp2_with fail;rw [← L.o];clear c0 c1 c2 c3 c4 d0 d1 Z N Q U W ai an af ag ar au ao av;go_loopw [5] (fun i wr=>∃ k:Nat,i = .int .i64 k∧k≤va.l.length∧eqL (eqV n) (va.l.drop k) (vb.l.drop k)=eqL (eqV n) va.l vb.l∧zb [] W2 wr) (fun i _=>va.l.length-(intOf i).toNat);case atStart=>exact⟨0,rfl,XB,rfl,Wd⟩
  case round=>
   obtain⟨k,rfl,hk,hg,f⟩:=hrel;have R:=qI hg;have Gj:=qI f;have K:=qI (Gc.o.trans' f);obtain⟨c0,c1,c2,c3,c4⟩:=HB.o.k0 f;obtain⟨d0,d1,Z,N,Q⟩:=Gk.o.k0 f;clear hg f;by_cases A:k<va.l.length
   ·have aw:(k:Int)<va.l.length:=by omega
    have aa:(k:Int)<vb.l.length:=XC C.o;have v:k<vb.l.length:=Ws;obtain⟨g,o,cap,kd,nm,st,a1,b1,I,O,q1,q2,q3,q4,hr⟩:=H.o.at_l K.o k A;simp only [Value.slice.injEq] at I;obtain⟨rfl,-,rfl⟩:=I;obtain⟨g',o',aq,ah,aj,ae,al,ad,I,M,p1,p2,p3,p4,J⟩:=H'.o.at_l K.o k v;simp only [Value.slice.injEq] at I;obtain⟨rfl,-,rfl⟩:=I;have HR:=qI hr;have Gf:=qI J;have Gg:=qI (Gm.o.kid (je (List.getElem_mem A)));have Y:∀ z:Ext wr,Calls prog 42 #[.agg #[.int .i64 kd,.int .i64 nm,.string st,a1,b1],.agg #[.int .i64 ah,.int .i64 aj,.string ae,al,ad]] z.w fun e w'=>e = .returned (.bool (eqV n va.l[k] vb.l[k]))∧zb [] z.w w':=fun z=>IH.o _ _ (HR.o.k0 z.k) (Gf.o.k0 z.k) Gg.o;have F:=qI (Ko (r:=eqV n) A v);clear hr J;revert Y F;generalize eqV n va.l[k] vb.l[k]=r;intro Y F;have E0:=zv c3;have E1:=zv N;have E2:=zv O;have E3:=zv q1;have E4:=zv q2;have E5:=zv q3;have E6:=zv q4;have E7:=zv M;have E8:=zv p1;have E9:=zv p2;have az:=zv p3;have a2:=zv p4;go_wp2_with fail;refine yg wr Wr Wr Wd ?_;clear c0 c1 c2 c4 d0 d1 Z Q O q1 q2 q3 q4 M p1 p2 p3 p4 c3 N;repeat go_big_quiet_step ((go_at_call 42;exact JU (Y _)))
    refine wpQuiet_nil ?_;intro w2 B;cases r;·go_wp2;go_ret;rw [Gi.o,← R.o,F.o];exact⟨Wz,K.o.then B⟩
    ·go_wp2;case roundEnd=>refine⟨⟨k+1,by go_num,Ws,?_,Gj.o.then B⟩,by simp [intOf];omega⟩;rw [← R.o,F.o];simp
   ·obtain rfl:k=va.l.length:=by omega
    have aD:(vb.l.length:Int)≤(va.l.length:Int):=XC C.o;have Gd:Hid (eqV (n+1) va vb=eqL (fun p q=>decide (p.1=q.1)&&eqV n p.2 q.2) va.m vb.m):=qI (by rw [Gi.o,← R.o,zav C.o];simp);go_wp2_with fail;clear R K c0 c1 c2 c3 c4 d0 d1 Z N Q;go_loopw [6] (fun i ay=>∃ k:Nat,i = .int .i64 k∧k≤va.m.length∧eqL (fun p q=>decide (p.1=q.1)&&eqV n p.2 q.2) (va.m.drop k) (vb.m.drop k)=eqL (fun p q=>decide (p.1=q.1)&&eqV n p.2 q.2) va.m vb.m∧zb [] W2 ay) (fun i _=>va.m.length-(intOf i).toNat);case atStart=>exact⟨0,rfl,XB,rfl,Gj.o⟩
    case round=>
     obtain⟨k,rfl,hk,hg,f⟩:=hrel;clear Gj;have R:=qI hg;have Gj:=qI f;have K:=qI (Gc.o.trans' f);obtain⟨c0,c1,c2,c3,c4⟩:=HB.o.k0 f;obtain⟨d0,d1,Z,N,Q⟩:=Gk.o.k0 f;clear hg f;by_cases A:k<va.m.length
     ·have aw:(k:Int)<va.m.length:=by omega
      have aa:(k:Int)<vb.m.length:=XC G.o;have v:k<vb.m.length:=Ws;obtain⟨g,o,cap,kd,nm,st,a1,b1,I,O,q1,q2,q3,q4,q5,hr⟩:=H.o.at_m K.o k A;simp only [Value.slice.injEq] at I;obtain⟨rfl,-,rfl⟩:=I;obtain⟨g',o',aq,ah,aj,ae,al,ad,I,M,p1,p2,p3,p4,p5,J⟩:=H'.o.at_m K.o k v;simp only [Value.slice.injEq] at I;obtain⟨rfl,-,rfl⟩:=I;have HR:=qI hr;have Gf:=qI J;have Gg:=qI (Gm.o.kid (kN (List.getElem_mem A)));have F:=qI (Ko (r:=fun p q:ByteArray×V n=>decide (p.1=q.1)&&eqV n p.2 q.2) A v);clear hr J;revert O M HR Gf Gg F;generalize va.m[k]=x;generalize vb.m[k]=y;obtain⟨key,x⟩:=x;obtain⟨ap,y⟩:=y;intro M O HR Gf Gg F;simp only at O M HR Gf Gg F;have Y:∀ z:Ext wr,Calls prog 42 #[.agg #[.int .i64 kd,.int .i64 nm,.string st,a1,b1],.agg #[.int .i64 ah,.int .i64 aj,.string ae,al,ad]] z.w fun e w'=>e = .returned (.bool (eqV n x y))∧zb [] z.w w':=fun z=>IH.o _ _ (HR.o.k0 z.k) (Gf.o.k0 z.k) Gg.o;have E0:=zv c4;have E1:=zv Q;have E2:=zv O;have E3:=zv q1;have E4:=zv q2;have E5:=zv q3;have E6:=zv q4;have E7:=zv q5;have E8:=zv M;have E9:=zv p1;have az:=zv p2;have a2:=zv p3;have aA:=zv p4;have a6:=zv p5;by_cases u:key=ap
      ·obtain⟨a0,ax⟩:=vu u;have Gh:Hid (eqL (fun p q=>decide (p.1=q.1)&&eqV n p.2 q.2) (va.m.drop k) (vb.m.drop k)=(eqV n x y&&eqL (fun p q=>decide (p.1=q.1)&&eqV n p.2 q.2) (va.m.drop (k+1)) (vb.m.drop (k+1)))):=qI (by rw [F.o,decide_eq_true u,Bool.true_and]);clear u F;revert Y Gh;generalize eqV n x y=r;intro Y Gh;go_wp2_with fail;refine yg wr Wr Wr Wd ?_;clear c0 c1 c2 c4 d0 d1 Z Q O q1 q2 q3 q4 q5 M p1 p2 p3 p4 p5 c3 N;repeat go_big_quiet_step ((go_at_call 42;exact JU (Y _)))
       refine wpQuiet_nil ?_;intro w2 B;cases r;·go_wp2;go_ret;rw [Gd.o,← R.o,Gh.o];exact⟨Wz,K.o.then B⟩
       ·go_wp2;case roundEnd=>refine⟨⟨k+1,by go_num,Ws,?_,Gj.o.then B⟩,by simp [intOf];omega⟩;rw [← R.o,Gh.o];simp
      ·obtain⟨a0,ax⟩:=jS u;have Gh:Hid (eqL (fun p q=>decide (p.1=q.1)&&eqV n p.2 q.2) (va.m.drop k) (vb.m.drop k)=false):=qI (by rw [F.o,decide_eq_false u];simp);clear u F Y;go_wp2_with fail;refine yg wr Wr Wr Wd ?_;clear c0 c1 c2 c4 d0 d1 Z Q O q1 q2 q3 q4 q5 M p1 p2 p3 p4 p5 c3 N;repeat go_big_quiet_step (fail)
       refine wpQuiet_nil ?_;intro w2 B;go_wp2;go_ret;rw [Gd.o,← R.o,Gh.o];exact⟨rfl,K.o.then B⟩
     ·obtain rfl:k=va.m.length:=by omega
      have a5:(vb.m.length:Int)≤(va.m.length:Int):=XC G.o;go_wp2;go_ret;rw [Gd.o,← R.o,zav G.o];exact⟨rfl,K.o⟩
theorem Z0:∀ (n:Nat),vX n
 | 0=>fun v _ {_}{_}{_}{_}{_} h _ _=>h.elim
 | n+1=>zbF (Z0 n)
theorem exact_any:∀ (n:Nat) (va vb:V n) {S T:Nat→Prop}{w:World}{ca cb:List Value},Rep n S w ca va→Rep n T w cb vb→zP n va→Calls prog 42 #[.agg ca.toArray,.agg cb.toArray] w fun e w'=>e = .returned (.bool (eqV n va vb))∧zb [] w w':=fun n=>Z0 n
end Go.Proofs.YtjccecajigmfkaaGreatDoor

/- Parts of one proof, merged: XKF. -/
import Derived.Test.YtjccecajigmfkaaGreatDoorSdI
set_option linter.all false
set_option maxHeartbeats 12800000
set_option maxRecDepth 100000
namespace Go.Proofs.YtjccecajigmfkaaGreatDoor
open Go.Proofs.Tryz
open Go.RowKit
variable {n:Nat}
theorem all_drop {α:Type}{r:α→Bool}{xs:List α}{k:Nat}(h:k<xs.length):(xs.drop k).all r=(r xs[k]&&(xs.drop (k+1)).all r):=by
 rw [X0 h];rfl
theorem vp {w:World}{g:Nat}(d:w.heap.size=g)(k m:Int)(s:ByteArray)(a b:Value)(t:Nat):yA (w.alloc (.cells #[.int .i64 k,.int .i64 m,.string s,a,b] t)) g k m s a b:=by
 subst d;exact xr w k m s a b t
theorem rightV_other {v:VS (V n)}(h:¬ (v.kind=1∨v.kind=2∨v.kind=3∨v.kind=4∨v.kind=5∨v.kind=6)):zn (n+1) v=false:=by
 have e:zn (n+1) v=(zy v&&v.kids.all (zn n)):=rfl;rw [e];have:zy v=false:=by unfold zy;rw [XJ Ws,XJ Ws,XJ Ws,XJ Ws,XJ Ws,XJ Ws]
 rw [this];rfl
theorem YB {v:VS (V n)}(h:zy v=false):zn (n+1) v=false:=by
 have e:zn (n+1) v=(zy v&&v.kids.all (zn n)):=rfl;rw [e,h];rfl
def jN (n : Nat) : Prop := ∀ (v : V n) {S : Nat → Prop} {w : World} {cs : List Value}, Rep n S w cs v → zP n v →
    Calls prog 71 #[.agg cs.toArray] w fun e w'=>e = .returned (.bool (zn n v))∧zb [] w w'
theorem JA (ab:jN n):jN (n+1):=fun (v:VS (V n)) {S}{w}{cs} h hs=>by
  have Gx:=qI h;have Gv:=qI hs;obtain⟨vl,vm,lcs,mcs,h⟩:=h;obtain⟨a,c,b,e,rfl,rfl,rfl⟩:=h.forms;have H:=qI h;have IH:=qI ab;obtain⟨W1,C⟩:=XE (w.alloc (.cells #[.int .i64 v.kind,.int .i64 v.num,.string v.s,.slice a v.l.length c,.slice b v.m.length e] 25));have HB:Hid (yA W1 w.heap.size v.kind v.num v.s (.slice a v.l.length c) (.slice b v.m.length e)):=qI (by rw [C.o];exact xr w v.kind v.num v.s (.slice a v.l.length c) (.slice b v.m.length e) 25);have Gh:Hid (zb [] w W1):=qI (by rw [C.o];exact ((zb.refl [] w).alloc _));have Jb:Hid (W1.heap.size=w.heap.size+1):=qI (by rw [C.o];simp);have aj:v.l.length≤20000:=XC hs.few;have ar:v.m.length≤20000:=XC hs.few;have aq:(v.s.size:Int)≤400000:=by have:=hs.2;have e:zW (n+1) v=v.s.size+v.keyBytes+(v.kids.map (zW n)).sum:=rfl;omega
  have Gp:Hid (∀ p,p∈v.m→p.1.size≤400000):=qI fun p hp=>X7 (key_le hp) hs.2;obtain⟨c0,c1,c2,c3,c4⟩:=HB.o;rw [C.o] at c0 c1 c2 c3 c4;clear h hs;go_enter func71,ntmps71;go_upto_block 0 with fail;go_cut [] from 12 to 58 (fun wr=>∃ (m:Int) (s:ByteArray) (l k:Nat) (al am:Option Addr) (cl cm:Nat),zb [] W1 wr∧yA wr (w.heap.size+1) v.kind m s (.slice al l cl) (.slice am k cm)∧Hid (Zc v m s l k));case first=>
   by_cases z:v.kind=1;·have Z:=(yq z).1;have B:Hid (Zc v 0 ⟨#[]⟩ 0 0):=qI (.inl ⟨z,rfl,rfl,rfl,rfl⟩);clear z;go_wp2;go_meet;exact⟨0,⟨#[]⟩,0,0,_,_,_,_,by rw [C.o];exact Wd.alloc _,vp Wz _ _ _ _ _ _,B⟩
   have Z:=(zq z).1;by_cases u:v.kind=2
   ·have f2:=(yq u).1;by_cases O:v.num=0;·have g0:=yq O;have B:Hid (Zc v v.num ⟨#[]⟩ 0 0):=qI (.inr (.inl ⟨u,.inl O,rfl,rfl,rfl,rfl⟩));obtain⟨g1,g2⟩:=g0;clear z u O;go_wp2;go_meet;exact⟨v.num,⟨#[]⟩,0,0,_,_,_,_,by rw [C.o];exact Wd.alloc _,vp Wz _ _ _ _ _ _,B⟩
    obtain⟨g1,g2⟩:=zq O;by_cases n1:v.num=1;·obtain⟨g3,g4⟩:=yq n1;have B:Hid (Zc v v.num ⟨#[]⟩ 0 0):=qI (.inr (.inl ⟨u,.inr n1,rfl,rfl,rfl,rfl⟩));clear z u O n1;go_wp2;go_meet;exact⟨v.num,⟨#[]⟩,0,0,_,_,_,_,by rw [C.o];exact Wd.alloc _,vp Wz _ _ _ _ _ _,B⟩
    ·obtain⟨g3,g4⟩:=zq n1;have A:Hid (zn (n+1) v=false):=qI (YB (by unfold zy;rw [XJ z,XK u];simp [O,n1]));clear z u O n1;go_wp2;go_ret;rw [A.o];exact⟨rfl,by have E:=Gh.o;rw [C.o] at E;exact E.alloc _⟩
   have f2:=(zq u).1;by_cases F:v.kind=3
   ·have f3:=(yq F).1;by_cases O:v.num < -9007199254740991;·have A:Hid (zn (n+1) v=false):=qI (YB (by unfold zy;rw [XJ z,XJ u,XK F,XO Ws];simp));clear z u F;go_wp2;go_ret;rw [A.o];exact⟨rfl,by have E:=Gh.o;rw [C.o] at E;exact E.alloc _⟩
    by_cases n1:9007199254740991<v.num;·have A:Hid (zn (n+1) v=false):=qI (YB (by unfold zy;rw [XJ z,XJ u,XK F,XO Ws];simp));clear z u F;go_wp2;go_ret;rw [A.o];exact⟨rfl,by have E:=Gh.o;rw [C.o] at E;exact E.alloc _⟩
    ·have B:Hid (Zc v v.num ⟨#[]⟩ 0 0):=qI (.inr (.inr (.inl ⟨F,Ws,rfl,rfl,rfl,rfl⟩)));clear z u F;go_wp2;go_meet;exact⟨v.num,⟨#[]⟩,0,0,_,_,_,_,by rw [C.o];exact Wd.alloc _,vp Wz _ _ _ _ _ _,B⟩
   have f3:=(zq F).1;by_cases M:v.kind=4
   ·have f4:=(yq M).1;cases X:zv v.s with
    | true=>have B:Hid (Zc v 0 v.s 0 0):=qI (.inr (.inr (.inr (.inl ⟨M,X,rfl,rfl,rfl,rfl⟩))));have Gq:=qI X;clear z u F M X;go_wp2_with (go_at_call 122;refine (ZU v.s Ws _).mono ?_;rw [Gq.o];rintro e w2 ⟨rfl,d⟩);go_meet;exact⟨0,v.s,0,0,_,_,_,_,by rw [C.o];exact (Wd.alloc _).then d,(vp Wz _ _ _ _ _ _).k0 d,B⟩
    | false=>have A:Hid (zn (n+1) v=false):=qI (YB (by unfold zy;rw [XJ z,XJ u,XJ F,XK M,X];simp));have Gq:=qI X;clear z u F M X;go_wp2_with (go_at_call 122;refine (ZU v.s Ws _).mono ?_;rw [Gq.o];rintro e w2 ⟨rfl,d⟩);go_ret;rw [A.o];exact⟨rfl,by have E:=Gh.o;rw [C.o] at E;exact (E.alloc _).then d⟩
   have f4:=(zq M).1;by_cases k5:v.kind=5;·have f5:=(yq k5).1;have B:Hid (Zc v 0 ⟨#[]⟩ v.l.length 0):=qI (.inr (.inr (.inr (.inr (.inl ⟨k5,rfl,rfl,rfl,rfl⟩)))));clear z u F M k5;go_wp2;go_meet;exact⟨0,⟨#[]⟩,v.l.length,0,_,_,_,_,by rw [C.o];exact Wd.alloc _,vp Wz _ _ _ _ _ _,B⟩
   have f5:=(zq k5).1;by_cases k6:v.kind=6;·have f6:=(yq k6).1;have B:Hid (Zc v 0 ⟨#[]⟩ 0 v.m.length):=qI (.inr (.inr (.inr (.inr (.inr ⟨k6,rfl,rfl,rfl,rfl⟩)))));clear z u F M k5 k6;go_wp2;go_meet;exact⟨0,⟨#[]⟩,0,v.m.length,_,_,_,_,by rw [C.o];exact Wd.alloc _,vp Wz _ _ _ _ _ _,B⟩
   ·have f6:=(zq k6).1;have A:Hid (zn (n+1) v=false):=qI (rightV_other Ws);clear z u F M k5 k6;go_wp2;go_ret;rw [A.o];exact⟨rfl,by have E:=Gh.o;rw [C.o] at E;exact E.alloc _⟩
  case rest=>
   obtain⟨m,s,l,k,al,am,cl,cm,f,X,Gg⟩:=hcut;have Gi:=qI (right_bare Gg.o);have Jc:=qI f;have Gc:=qI (Gh.o.trans' f);have Gr:=qI (HB.o.k0 f);clear c0 c1 c2 c3 c4;obtain⟨c0,c1,c2,c3,c4⟩:=Gr.o;obtain⟨d0,d1,d2,d3,d4⟩:=X;clear f Gg;by_cases t:v.num=m;rotate_left;·obtain⟨Z,f2⟩:=zq t;have A:Hid (zn (n+1) v=false):=qI (by rw [Gi.o];simp [t]);clear t;go_wp2;go_ret;rw [A.o];exact⟨rfl,Gc.o⟩
   obtain⟨g1,g2⟩:=yq t;have N:=qI t;clear t;by_cases q:v.s=s;rotate_left;·obtain⟨Z,f2⟩:=k7 q;have A:Hid (zn (n+1) v=false):=qI (by rw [Gi.o];simp [q]);clear q;go_wp2;go_ret;rw [A.o];exact⟨rfl,Gc.o⟩
   obtain⟨g3,g4⟩:=jv q;have Q:=qI q;clear q;by_cases hl:v.l.length=l;rotate_left;·obtain⟨Z,f2⟩:=ve hl;have A:Hid (zn (n+1) v=false):=qI (by rw [Gi.o];simp [hl]);clear hl;go_wp2;go_ret;rw [A.o];exact⟨rfl,Gc.o⟩
   obtain⟨g5,g6⟩:=Qm hl;have Hl:=qI hl;clear hl;by_cases hm:v.m.length=k;rotate_left;·obtain⟨Z,f2⟩:=ve hm;have A:Hid (zn (n+1) v=false):=qI (by rw [Gi.o];simp [hm]);clear hm;go_wp2;go_ret;rw [A.o];exact⟨rfl,Gc.o⟩
   obtain⟨g7,g8⟩:=Qm hm;have Hm:=qI hm;clear hm;have Gk:Hid (zn (n+1) v=(v.l.all (zn n)&&kC (zn n) [] v.m)):=qI (by rw [Gi.o];simp [N.o,Q.o,Hl.o,Hm.o]);go_wp2_with fail;clear c0 c1 c2 c3 c4 d0 d1 d2 d3 d4 g1 g2 g3 g4 g5 g6 g7 g8 Gi N Q Hl Hm;go_loopw [4] (fun i wr=>∃ k:Nat,i = .int .i64 k∧k≤v.l.length∧(v.l.drop k).all (zn n)=v.l.all (zn n)∧zb [] wc wr) (fun i _=>v.l.length-(intOf i).toNat);case atStart=>exact⟨0,rfl,XB,rfl,Wd⟩
   case round=>
    obtain⟨k,rfl,hk,hg,f⟩:=hrel;have L:=qI hg;have Gl:=qI f;have K:=qI (Gc.o.trans' f);obtain⟨c0,c1,c2,c3,c4⟩:=Gr.o.k0 f;clear hg f;by_cases y:k<v.l.length
    ·have ae:(k:Int)<v.l.length:=by omega
     obtain⟨g,o,cap,kd,nm,st,a1,b1,P,Y,q1,q2,q3,q4,hr⟩:=H.o.at_l K.o k y;simp only [XU] at P;obtain⟨rfl,-,rfl⟩:=P;have J:=qI (IH.o _ hr (Gv.o.kid (YP (XX y))));have I:=qI (all_drop (r:=zn n) y);clear hr;revert J I;generalize zn n v.l[k]=r;intro J I;cases r;·go_wp2_with (go_at_call 71;refine J.o.mono ?_;rintro e w2 ⟨rfl,d⟩);go_ret;rw [Gk.o,← L.o,I.o];exact⟨Wz,K.o.then d⟩
     ·go_wp2_with (go_at_call 71;refine J.o.mono ?_;rintro e w2 ⟨rfl,d⟩);case roundEnd=>refine⟨⟨k+1,by go_num,Ws,?_,Gl.o.then d⟩,by simp [intOf];omega⟩;rw [← L.o,I.o];simp
    ·obtain rfl:k=v.l.length:=by omega
     have Gf:Hid (zn (n+1) v=kC (zn n) [] v.m):=qI (by rw [Gk.o,← L.o,uV];simp);have Gm:=qI Gl.o;go_wp2_with fail;clear L K Gl c0 c1 c2 c3 c4;go_loopw [5] (fun i wr=>∃ k:Nat,i = .int .i64 k∧k≤v.m.length∧kC (zn n) ((v.m.take k).map (fun p=>p.1)) (v.m.drop k)=kC (zn n) [] v.m∧zb [] wc wr) (fun i _=>v.m.length-(intOf i).toNat);case atStart=>exact⟨0,rfl,XB,rfl,Gm.o⟩
     case round=>
      obtain⟨k,rfl,hk,hg,f⟩:=hrel;have L:=qI hg;have Gl:=qI f;have K:=qI (Gc.o.trans' f);have B:=qI (Gr.o.k0 f);obtain⟨c0,c1,c2,c3,c4⟩:=B.o;clear hg f Gm;by_cases y:k<v.m.length
      ·have ae:(k:Int)<v.m.length:=by omega
       obtain⟨g,o,cap,kd,nm,st,a1,b1,P,Y,q1,q2,q3,q4,q5,hr⟩:=H.o.at_m K.o k y;simp only [XU] at P;obtain⟨rfl,-,rfl⟩:=P;have D:v.m[k].1.size≤281474976710656:=XC (Gp.o _ (XX y));have J:Hid (xz wr 71 #[.agg #[.int .i64 kd,.int .i64 nm,.string st,a1,b1]] (.bool (zn n v.m[k].2))):=qI fun w2 hk=>IH.o _ (hr.k0 hk) (Gv.o.kid (Zj (XX y)))
       have CV:=qI (ZU v.m[k].1 D wr);have I:Hid (kC (zn n) ((v.m.take k).map (fun p=>p.1)) (v.m.drop k)=(zv v.m[k].1&&zn n v.m[k].2 && !(((v.m.take k).map (fun p=>p.1)).any (fun x=>decide (x=v.m[k].1)))&&kC (zn n) ((v.m.take (k+1)).map (fun p=>p.1)) (v.m.drop (k+1)))):=qI (by
        rw [X0 y,xQ _ _ _ y];rfl)
       clear hr D;revert J CV I;generalize U:v.m[k].1=key at Y;generalize zn n v.m[k].2=r;generalize zv key=ok;intro J CV I;have ag:=qI U;clear U;cases ok with
       | false=>go_wp2_with (go_at_call 122;refine CV.o.mono ?_;rintro e w2 ⟨rfl,d⟩);go_ret;rw [Gf.o,← L.o,I.o];exact⟨Wz,K.o.then d⟩
       | true=>
        cases r with
        | false=>
         go_wp2_with (first
          | (go_at_call 122;refine CV.o.mono ?_;rintro e w2 ⟨rfl,d⟩;have Gj:=qI d;obtain⟨e4,e1,e2,e3,e5,e6⟩:=VO d c4 q1 q2 q3 q4 q5;clear d)
          | (go_at_call 71;refine (J.o _ Gj.o).mono ?_;rintro e w3 ⟨rfl,D⟩))
         go_ret;rw [Gf.o,← L.o,I.o];exact⟨Wz,(K.o.then Gj.o).then D⟩
        | true=>
         go_wp2_with (first
          | (go_at_call 122;refine CV.o.mono ?_;rintro e w2 ⟨rfl,d⟩;have Gj:=qI d;obtain⟨e4,e1,e2,e3,e5,e6⟩:=VO d c4 q1 q2 q3 q4 q5;clear d)
          | (go_at_call 71;refine (J.o _ Gj.o).mono ?_;rintro e w3 ⟨rfl,D⟩))
         have Gy:=qI (Gj.o.then D);clear D Gj e1 e2 e3 e4 e5 e6 J CV;have Gw:Hid (kC (zn n) ((v.m.take k).map (fun p=>p.1)) (v.m.drop k)=(!(((v.m.take k).map (fun p=>p.1)).any (fun x=>decide (x=key)))&&kC (zn n) ((v.m.take (k+1)).map (fun p=>p.1)) (v.m.drop (k+1)))):=qI (by rw [I.o];simp);have Gs:Hid (wr.cell? ⟨g,o+k*6,none⟩=some (.string key)):=qI Y;clear I c0 c1 c2 c3 c4 Y q1 q2 q3 q4 q5;go_loopw [6] (fun i af=>∃ j:Nat,i = .int .i64 j∧j≤k∧((v.m.take j).map (fun p=>p.1)).any (fun x=>decide (x=key))=false∧zb [] wr af) (fun i _=>k-(intOf i).toNat);case atStart=>exact⟨0,rfl,XB,rfl,Gy.o⟩
         case round=>
          obtain⟨j,rfl,hj,R,W⟩:=hrel;have Gn:=qI R;have Gd:=qI W;clear R W;by_cases an:j<k
          ·have au:(j:Int)<k:=by omega
           have ad:j<v.m.length:=Ws;have ah:(j:Int)<v.m.length:=Ws;obtain⟨c0,c1,c2,c3,c4⟩:=B.o.k0 Gd.o;have Y:=Gd.o.cell Gs.o Wz;obtain⟨g2,o2,ai,ak,ap,ao,a2,b2,P,p0,p1,p2,p3,p4,p5,-⟩:=H.o.at_m (K.o.then Gd.o) j ad;simp only [XU,Xt,Addr.mk.injEq] at P;obtain⟨⟨rfl,rfl,-⟩,-,-⟩:=P;have Gt:Hid (((v.m.take (j+1)).map (fun p=>p.1)).any (fun x=>decide (x=key))=decide (v.m[j].1=key)):=qI (by rw [xQ _ _ _ ad,List.any_append,Gn.o];simp);have Gu:Hid (v.m[j].1=key→((v.m.take k).map (fun p=>p.1)).any (fun x=>decide (x=key))=true):=qI fun e=>List.any_eq_true.2 ⟨key,Xm.2 ⟨v.m[j],List.mem_take_iff_getElem.2 ⟨j,Ws,rfl⟩,e⟩,Wz⟩;have E0:=zt c4;have E1:=zt Y;have E2:=zt p0;revert E2 Gt Gu;generalize v.m[j].1=key2;intro Gt Gu E2;by_cases G:key2=key
           ·obtain⟨Z,f2⟩:=jv G;have Gz:=qI (Gu.o G);clear G;go_wp2_with fail;refine zI wr Wr Wr Wd ?_;clear c0 c1 c2 c3 c4 Y p0 p1 p2 p3 p4 p5;repeat go_big_quiet_step (fail)
            refine wpQuiet_nil ?_;intro w5 aa;go_wp2;go_ret;rw [Gf.o,← L.o,Gw.o,Gz.o];exact⟨Wz,(K.o.then Gd.o).then aa⟩
           ·obtain⟨Z,f2⟩:=k7 G;have Ja:Hid (((v.m.take (j+1)).map (fun p=>p.1)).any (fun x=>decide (x=key))=false):=qI (by rw [Gt.o];exact XO G);clear G;go_wp2_with fail;refine zI wr Wr Wr Wd ?_;clear c0 c1 c2 c3 c4 Y p0 p1 p2 p3 p4 p5;repeat go_big_quiet_step (fail)
            refine wpQuiet_nil ?_;intro w5 aa;go_wp2;case roundEnd=>exact⟨⟨j+1,by go_num,Ws,Ja.o,Gd.o.then aa⟩,by simp [intOf];omega⟩
          ·obtain rfl:j=k:=by omega
           go_wp2;case roundEnd=>refine⟨⟨j+1,by go_num,Ws,?_,Gl.o.then Gd.o⟩,by simp [intOf];omega⟩;rw [← L.o,Gw.o,Gn.o];simp
      ·obtain rfl:k=v.m.length:=by omega
       go_wp2;go_ret;rw [Gf.o,← L.o,uV];exact⟨rfl,K.o⟩
theorem bI:∀ (n:Nat),jN n
 | 0=>fun v {_}{_}{_} h _=>h.elim
 | n+1=>JA (bI n)
theorem refRight_any:∀ (n:Nat) (v:V n) {S:Nat→Prop}{w:World}{cs:List Value},Rep n S w cs v→zP n v→Calls prog 71 #[.agg cs.toArray] w fun e w'=>e = .returned (.bool (zn n v))∧zb [] w w':=fun n=>bI n
end Go.Proofs.YtjccecajigmfkaaGreatDoor

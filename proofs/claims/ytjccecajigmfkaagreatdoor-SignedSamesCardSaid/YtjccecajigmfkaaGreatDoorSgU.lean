/- Parts of one proof, merged: XKF. -/
import Derived.Test.YtjccecajigmfkaaGreatDoorSgK
import Derived.Test.YtjccecajigmfkaaGreatDoorSgI
set_option linter.all false
set_option maxHeartbeats 12800000
set_option maxRecDepth 100000
namespace Go.Proofs.YtjccecajigmfkaaGreatDoor
open Go.Proofs.Tryz
open Go.RowKit
variable {n:Nat}{v:VS (V n)}
theorem all_drop {α:Type}{r:α→Bool}{xs:List α}{k:Nat}(h:k<xs.length):(xs.drop k).all r=(r xs[k]&&(xs.drop (k+1)).all r):=by
 rw [List.drop_eq_getElem_cons h];rfl
theorem rightV_other (h:¬ (v.kind=1∨v.kind=2∨v.kind=3∨v.kind=4∨v.kind=5∨v.kind=6)):zo (n+1) v=false:=by
 have e:zo (n+1) v=(zE v&&v.kids.all (zo n)):=rfl;rw [e];have:zE v=false:=by unfold zE;rw [if_neg Ws,if_neg Ws,if_neg Ws,if_neg Ws,if_neg Ws,if_neg Ws]
 rw [this];rfl
theorem ZS (h:zE v=false):zo (n+1) v=false:=by
 have e:zo (n+1) v=(zE v&&v.kids.all (zo n)):=rfl;rw [e,h];rfl
def jz (n : Nat) : Prop := ∀ (v : V n) {S : Nat → Prop} {w : World} {cs : List Value}, Rep n S w cs v → zP n v →
    Calls prog 71 #[.agg cs.toArray] w fun e w'=>e = .returned (.bool (zo n v))∧zb [] w w'
theorem KD (aa:jz n):jz (n+1):=fun (v:VS (V n)) {S}{w}{cs} h hs=>by
  have Gx:=qI h;have Gv:=qI hs;obtain⟨vl,vm,lcs,mcs,h⟩:=h;obtain⟨a,c,b,e,rfl,rfl,rfl⟩:=h.forms;have H:=qI h;have IH:=qI aa;obtain⟨W1,C⟩:=XE (w.alloc (.cells #[.int .i64 v.kind,.int .i64 v.num,.string v.s,.slice a v.l.length c,.slice b v.m.length e] 25));have HB:Hid (yZ W1 w.heap.size v.kind v.num v.s (.slice a v.l.length c) (.slice b v.m.length e)):=qI (by rw [C.o];exact xr w v.kind v.num v.s (.slice a v.l.length c) (.slice b v.m.length e) 25);have Gh:Hid (zb [] w W1):=qI (by rw [C.o];exact ((zb.refl [] w).alloc _));have Jb:Hid (W1.heap.size=w.heap.size+1):=qI (by rw [C.o];simp);have ar:v.l.length≤20000:=XC hs.few;have ap:v.m.length≤20000:=XC hs.few;have ai:(v.s.size:Int)≤400000:=by have:=hs.2;have e:zT (n+1) v=v.s.size+v.keyBytes+(v.kids.map (zT n)).sum:=rfl;omega
  have Gp:Hid (∀ p,p∈v.m→p.1.size≤400000):=qI fun p hp=>Nat.le_trans (key_le hp) hs.2;obtain⟨c0,c1,c2,c3,c4⟩:=HB.o;rw [C.o] at c0 c1 c2 c3 c4;clear h hs;go_enter func71,ntmps71;go_upto_block 0 with fail;go_cut [] from 12 to 58 (fun wr=>∃ (m:Int) (s:ByteArray) (l k:Nat) (al am:Option Addr) (cl cm:Nat),zb [] W1 wr∧yZ wr (w.heap.size+1) v.kind m s (.slice al l cl) (.slice am k cm)∧Hid (bK v m s l k));case first=>
   by_cases y:v.kind=1;·have f1:=(xw y).1;have B:Hid (bK v 0 ⟨#[]⟩ 0 0):=qI (.inl ⟨y,rfl,rfl,rfl,rfl⟩);clear y;go_wp2;go_meet;exact⟨0,⟨#[]⟩,0,0,_,_,_,_,by rw [C.o];exact Wd.alloc _,jq Wz _ _ _ _ _ _,B⟩
   have f1:=(zR y).1;by_cases z:v.kind=2
   ·have f2:=(xw z).1;by_cases Y:v.num=0;·have g0:=xw Y;have B:Hid (bK v v.num ⟨#[]⟩ 0 0):=qI (.inr (.inl ⟨z,.inl Y,rfl,rfl,rfl,rfl⟩));obtain⟨g1,g2⟩:=g0;clear y z Y;go_wp2;go_meet;exact⟨v.num,⟨#[]⟩,0,0,_,_,_,_,by rw [C.o];exact Wd.alloc _,jq Wz _ _ _ _ _ _,B⟩
    obtain⟨g1,g2⟩:=zR Y;by_cases n1:v.num=1;·obtain⟨g3,g4⟩:=xw n1;have B:Hid (bK v v.num ⟨#[]⟩ 0 0):=qI (.inr (.inl ⟨z,.inr n1,rfl,rfl,rfl,rfl⟩));clear y z Y n1;go_wp2;go_meet;exact⟨v.num,⟨#[]⟩,0,0,_,_,_,_,by rw [C.o];exact Wd.alloc _,jq Wz _ _ _ _ _ _,B⟩
    ·obtain⟨g3,g4⟩:=zR n1;have A:Hid (zo (n+1) v=false):=qI (ZS (by unfold zE;rw [if_neg y,if_pos z];simp [Y,n1]));clear y z Y n1;go_wp2;go_ret;rw [A.o];exact⟨rfl,by have E:=Gh.o;rw [C.o] at E;exact E.alloc _⟩
   have f2:=(zR z).1;by_cases F:v.kind=3
   ·have f3:=(xw F).1;by_cases Y:v.num < -9007199254740991;·have A:Hid (zo (n+1) v=false):=qI (ZS (by unfold zE;rw [if_neg y,if_neg z,if_pos F,decide_eq_false Ws];simp));clear y z F;go_wp2;go_ret;rw [A.o];exact⟨rfl,by have E:=Gh.o;rw [C.o] at E;exact E.alloc _⟩
    by_cases n1:9007199254740991<v.num;·have A:Hid (zo (n+1) v=false):=qI (ZS (by unfold zE;rw [if_neg y,if_neg z,if_pos F,decide_eq_false Ws];simp));clear y z F;go_wp2;go_ret;rw [A.o];exact⟨rfl,by have E:=Gh.o;rw [C.o] at E;exact E.alloc _⟩
    ·have B:Hid (bK v v.num ⟨#[]⟩ 0 0):=qI (.inr (.inr (.inl ⟨F,Ws,rfl,rfl,rfl,rfl⟩)));clear y z F;go_wp2;go_meet;exact⟨v.num,⟨#[]⟩,0,0,_,_,_,_,by rw [C.o];exact Wd.alloc _,jq Wz _ _ _ _ _ _,B⟩
   have f3:=(zR F).1;by_cases M:v.kind=4
   ·have f4:=(xw M).1;cases U:zw v.s with
    | true=>have B:Hid (bK v 0 v.s 0 0):=qI (.inr (.inr (.inr (.inl ⟨M,U,rfl,rfl,rfl,rfl⟩))));have Gq:=qI U;clear y z F M U;go_wp2_with (go_at_call 122;refine (ZF v.s Ws _).mono ?_;rw [Gq.o];rintro e w2 ⟨rfl,d⟩);go_meet;exact⟨0,v.s,0,0,_,_,_,_,by rw [C.o];exact (Wd.alloc _).then d,(jq Wz _ _ _ _ _ _).k0 d,B⟩
    | false=>have A:Hid (zo (n+1) v=false):=qI (ZS (by unfold zE;rw [if_neg y,if_neg z,if_neg F,if_pos M,U];simp));have Gq:=qI U;clear y z F M U;go_wp2_with (go_at_call 122;refine (ZF v.s Ws _).mono ?_;rw [Gq.o];rintro e w2 ⟨rfl,d⟩);go_ret;rw [A.o];exact⟨rfl,by have E:=Gh.o;rw [C.o] at E;exact (E.alloc _).then d⟩
   have f4:=(zR M).1;by_cases k5:v.kind=5;·have f5:=(xw k5).1;have B:Hid (bK v 0 ⟨#[]⟩ v.l.length 0):=qI (.inr (.inr (.inr (.inr (.inl ⟨k5,rfl,rfl,rfl,rfl⟩)))));clear y z F M k5;go_wp2;go_meet;exact⟨0,⟨#[]⟩,v.l.length,0,_,_,_,_,by rw [C.o];exact Wd.alloc _,jq Wz _ _ _ _ _ _,B⟩
   have f5:=(zR k5).1;by_cases k6:v.kind=6;·have f6:=(xw k6).1;have B:Hid (bK v 0 ⟨#[]⟩ 0 v.m.length):=qI (.inr (.inr (.inr (.inr (.inr ⟨k6,rfl,rfl,rfl,rfl⟩)))));clear y z F M k5 k6;go_wp2;go_meet;exact⟨0,⟨#[]⟩,0,v.m.length,_,_,_,_,by rw [C.o];exact Wd.alloc _,jq Wz _ _ _ _ _ _,B⟩
   ·have f6:=(zR k6).1;have A:Hid (zo (n+1) v=false):=qI (rightV_other Ws);clear y z F M k5 k6;go_wp2;go_ret;rw [A.o];exact⟨rfl,by have E:=Gh.o;rw [C.o] at E;exact E.alloc _⟩
  case rest=>
   obtain⟨m,s,l,k,al,am,cl,cm,f,U,Gg⟩:=hcut;have Gi:=qI (right_bare Gg.o);have Jc:=qI f;have Gc:=qI (Gh.o.trans' f);have Gr:=qI (HB.o.k0 f);clear c0 c1 c2 c3 c4;obtain⟨c0,c1,c2,c3,c4⟩:=Gr.o;obtain⟨d0,d1,d2,d3,d4⟩:=U;clear f Gg;by_cases q:v.num=m;rotate_left;·obtain⟨f1,f2⟩:=zR q;have A:Hid (zo (n+1) v=false):=qI (by rw [Gi.o];simp [q]);clear q;go_wp2;go_ret;rw [A.o];exact⟨rfl,Gc.o⟩
   obtain⟨g1,g2⟩:=xw q;have P:=qI q;clear q;by_cases t:v.s=s;rotate_left;·obtain⟨f1,f2⟩:=jS t;have A:Hid (zo (n+1) v=false):=qI (by rw [Gi.o];simp [t]);clear t;go_wp2;go_ret;rw [A.o];exact⟨rfl,Gc.o⟩
   obtain⟨g3,g4⟩:=vu t;have N:=qI t;clear t;by_cases hl:v.l.length=l;rotate_left;·obtain⟨f1,f2⟩:=jQ hl;have A:Hid (zo (n+1) v=false):=qI (by rw [Gi.o];simp [hl]);clear hl;go_wp2;go_ret;rw [A.o];exact⟨rfl,Gc.o⟩
   obtain⟨g5,g6⟩:=YT hl;have Hl:=qI hl;clear hl;by_cases hm:v.m.length=k;rotate_left;·obtain⟨f1,f2⟩:=jQ hm;have A:Hid (zo (n+1) v=false):=qI (by rw [Gi.o];simp [hm]);clear hm;go_wp2;go_ret;rw [A.o];exact⟨rfl,Gc.o⟩
   obtain⟨g7,g8⟩:=YT hm;have Hm:=qI hm;clear hm;have Gk:Hid (zo (n+1) v=(v.l.all (zo n)&&kf (zo n) [] v.m)):=qI (by rw [Gi.o];simp [P.o,N.o,Hl.o,Hm.o]);go_wp2_with fail;clear c0 c1 c2 c3 c4 d0 d1 d2 d3 d4 g1 g2 g3 g4 g5 g6 g7 g8 Gi P N Hl Hm;go_loopw [4] (fun i wr=>∃ k:Nat,i = .int .i64 k∧k≤v.l.length∧(v.l.drop k).all (zo n)=v.l.all (zo n)∧zb [] wc wr) (fun i _=>v.l.length-(intOf i).toNat);case atStart=>exact⟨0,rfl,XB,rfl,Wd⟩
   case round=>
    obtain⟨k,rfl,hk,hg,f⟩:=hrel;have L:=qI hg;have Gl:=qI f;have K:=qI (Gc.o.trans' f);obtain⟨c0,c1,c2,c3,c4⟩:=Gr.o.k0 f;clear hg f;by_cases u:k<v.l.length
    ·have ad:(k:Int)<v.l.length:=by omega
     obtain⟨g,o,cap,kd,nm,st,a1,b1,W,O,q1,q2,q3,q4,hr⟩:=H.o.at_l K.o k u;simp only [Value.slice.injEq] at W;obtain⟨rfl,-,rfl⟩:=W;have J:=qI (IH.o _ hr (Gv.o.kid (je (List.getElem_mem u))));have I:=qI (all_drop (r:=zo n) u);clear hr;revert J I;generalize zo n v.l[k]=r;intro J I;cases r;·go_wp2_with (go_at_call 71;refine J.o.mono ?_;rintro e w2 ⟨rfl,d⟩);go_ret;rw [Gk.o,← L.o,I.o];exact⟨Wz,K.o.then d⟩
     ·go_wp2_with (go_at_call 71;refine J.o.mono ?_;rintro e w2 ⟨rfl,d⟩);case roundEnd=>refine⟨⟨k+1,by go_num,Ws,?_,Gl.o.then d⟩,by simp [intOf];omega⟩;rw [← L.o,I.o];simp
    ·obtain rfl:k=v.l.length:=by omega
     have Gf:Hid (zo (n+1) v=kf (zo n) [] v.m):=qI (by rw [Gk.o,← L.o,List.drop_length];simp);have Gm:=qI Gl.o;go_wp2_with fail;clear L K Gl c0 c1 c2 c3 c4;go_loopw [5] (fun i wr=>∃ k:Nat,i = .int .i64 k∧k≤v.m.length∧kf (zo n) ((v.m.take k).map (fun p=>p.1)) (v.m.drop k)=kf (zo n) [] v.m∧zb [] wc wr) (fun i _=>v.m.length-(intOf i).toNat);case atStart=>exact⟨0,rfl,XB,rfl,Gm.o⟩
     case round=>
      obtain⟨k,rfl,hk,hg,f⟩:=hrel;have L:=qI hg;have Gl:=qI f;have K:=qI (Gc.o.trans' f);have B:=qI (Gr.o.k0 f);obtain⟨c0,c1,c2,c3,c4⟩:=B.o;clear hg f Gm;by_cases u:k<v.m.length
      ·have ad:(k:Int)<v.m.length:=by omega
       obtain⟨g,o,cap,kd,nm,st,a1,b1,W,O,q1,q2,q3,q4,q5,hr⟩:=H.o.at_m K.o k u;simp only [Value.slice.injEq] at W;obtain⟨rfl,-,rfl⟩:=W;have D:v.m[k].1.size≤281474976710656:=XC (Gp.o _ (List.getElem_mem u));have J:Hid (yL wr 71 #[.agg #[.int .i64 kd,.int .i64 nm,.string st,a1,b1]] (.bool (zo n v.m[k].2))):=qI fun w2 hk=>IH.o _ (hr.k0 hk) (Gv.o.kid (kN (List.getElem_mem u)))
       have CV:=qI (ZF v.m[k].1 D wr);have I:Hid (kf (zo n) ((v.m.take k).map (fun p=>p.1)) (v.m.drop k)=(zw v.m[k].1&&zo n v.m[k].2 && !(((v.m.take k).map (fun p=>p.1)).any (fun x=>decide (x=v.m[k].1)))&&kf (zo n) ((v.m.take (k+1)).map (fun p=>p.1)) (v.m.drop (k+1)))):=qI (by
        rw [List.drop_eq_getElem_cons u,xP _ _ _ u];rfl)
       clear hr D;revert J CV I;generalize X:v.m[k].1=key at O;generalize zo n v.m[k].2=r;generalize zw key=ok;intro J CV I;have af:=qI X;clear X;cases ok with
       | false=>go_wp2_with (go_at_call 122;refine CV.o.mono ?_;rintro e w2 ⟨rfl,d⟩);go_ret;rw [Gf.o,← L.o,I.o];exact⟨Wz,K.o.then d⟩
       | true=>
        cases r with
        | false=>
         go_wp2_with (first
          | (go_at_call 122;refine CV.o.mono ?_;rintro e w2 ⟨rfl,d⟩;have Gj:=qI d;have e4:=d.cell c4 Wz;have e1:=d.cell q1 Wz;have e2:=d.cell q2 Wz;have e3:=d.cell q3 Wz;have e5:=d.cell q4 Wz;have e6:=d.cell q5 Wz;clear d)
          | (go_at_call 71;refine (J.o _ Gj.o).mono ?_;rintro e w3 ⟨rfl,D⟩))
         go_ret;rw [Gf.o,← L.o,I.o];exact⟨Wz,(K.o.then Gj.o).then D⟩
        | true=>
         go_wp2_with (first
          | (go_at_call 122;refine CV.o.mono ?_;rintro e w2 ⟨rfl,d⟩;have Gj:=qI d;have e4:=d.cell c4 Wz;have e1:=d.cell q1 Wz;have e2:=d.cell q2 Wz;have e3:=d.cell q3 Wz;have e5:=d.cell q4 Wz;have e6:=d.cell q5 Wz;clear d)
          | (go_at_call 71;refine (J.o _ Gj.o).mono ?_;rintro e w3 ⟨rfl,D⟩))
         have Gy:=qI (Gj.o.then D);clear D Gj e1 e2 e3 e4 e5 e6 J CV;have Gw:Hid (kf (zo n) ((v.m.take k).map (fun p=>p.1)) (v.m.drop k)=(!(((v.m.take k).map (fun p=>p.1)).any (fun x=>decide (x=key)))&&kf (zo n) ((v.m.take (k+1)).map (fun p=>p.1)) (v.m.drop (k+1)))):=qI (by rw [I.o];simp);have Gs:Hid (wr.cell? ⟨g,o+k*6,none⟩=some (.string key)):=qI O;clear I c0 c1 c2 c3 c4 O q1 q2 q3 q4 q5;go_loopw [6] (fun i ae=>∃ j:Nat,i = .int .i64 j∧j≤k∧((v.m.take j).map (fun p=>p.1)).any (fun x=>decide (x=key))=false∧zb [] wr ae) (fun i _=>k-(intOf i).toNat);case atStart=>exact⟨0,rfl,XB,rfl,Gy.o⟩
         case round=>
          obtain⟨j,rfl,hj,R,Q⟩:=hrel;have Gn:=qI R;have Gd:=qI Q;clear R Q;by_cases an:j<k
          ·have aj:(j:Int)<k:=by omega
           have ab:j<v.m.length:=Ws;have ag:(j:Int)<v.m.length:=Ws;obtain⟨c0,c1,c2,c3,c4⟩:=B.o.k0 Gd.o;have O:=Gd.o.cell Gs.o Wz;obtain⟨g2,o2,ah,aq,ao,ak,a2,b2,W,p0,p1,p2,p3,p4,p5,-⟩:=H.o.at_m (K.o.then Gd.o) j ab;simp only [Value.slice.injEq,Option.some.injEq,Addr.mk.injEq] at W;obtain⟨⟨rfl,rfl,-⟩,-,-⟩:=W;have Gt:Hid (((v.m.take (j+1)).map (fun p=>p.1)).any (fun x=>decide (x=key))=decide (v.m[j].1=key)):=qI (by rw [xP _ _ _ ab,List.any_append,Gn.o];simp);have Gu:Hid (v.m[j].1=key→((v.m.take k).map (fun p=>p.1)).any (fun x=>decide (x=key))=true):=qI fun e=>List.any_eq_true.2 ⟨key,List.mem_map.2 ⟨v.m[j],List.mem_take_iff_getElem.2 ⟨j,Ws,rfl⟩,e⟩,Wz⟩;have E0:=zv c4;have E1:=zv O;have E2:=zv p0;revert E2 Gt Gu;generalize v.m[j].1=key2;intro Gt Gu E2;by_cases G:key2=key
           ·obtain⟨f1,f2⟩:=vu G;have Gz:=qI (Gu.o G);clear G;go_wp2_with fail;refine yg wr Wr Wr Wd ?_;clear c0 c1 c2 c3 c4 O p0 p1 p2 p3 p4 p5;repeat go_big_quiet_step (fail)
            refine wpQuiet_nil ?_;intro w5 Z;go_wp2;go_ret;rw [Gf.o,← L.o,Gw.o,Gz.o];exact⟨Wz,(K.o.then Gd.o).then Z⟩
           ·obtain⟨f1,f2⟩:=jS G;have Ja:Hid (((v.m.take (j+1)).map (fun p=>p.1)).any (fun x=>decide (x=key))=false):=qI (by rw [Gt.o];exact decide_eq_false G);clear G;go_wp2_with fail;refine yg wr Wr Wr Wd ?_;clear c0 c1 c2 c3 c4 O p0 p1 p2 p3 p4 p5;repeat go_big_quiet_step (fail)
            refine wpQuiet_nil ?_;intro w5 Z;go_wp2;case roundEnd=>exact⟨⟨j+1,by go_num,Ws,Ja.o,Gd.o.then Z⟩,by simp [intOf];omega⟩
          ·obtain rfl:j=k:=by omega
           go_wp2;case roundEnd=>refine⟨⟨j+1,by go_num,Ws,?_,Gl.o.then Gd.o⟩,by simp [intOf];omega⟩;rw [← L.o,Gw.o,Gn.o];simp
      ·obtain rfl:k=v.m.length:=by omega
       go_wp2;go_ret;rw [Gf.o,← L.o,List.drop_length];exact⟨rfl,K.o⟩
theorem vS:∀ (n:Nat),jz n
 | 0=>fun v {_}{_}{_} h _=>h.elim
 | n+1=>KD (vS n)
theorem refRight_any:∀ (n:Nat) (v:V n) {S:Nat→Prop}{w:World}{cs:List Value},Rep n S w cs v→zP n v→Calls prog 71 #[.agg cs.toArray] w fun e w'=>e = .returned (.bool (zo n v))∧zb [] w w':=fun n=>vS n
end Go.Proofs.YtjccecajigmfkaaGreatDoor

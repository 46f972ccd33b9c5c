/- Parts of one proof, merged: XKF. -/
import Derived.Test.YtibnfbglanpoiaaGreatDoorQeI
set_option linter.all false
set_option maxHeartbeats 12800000
set_option maxRecDepth 100000
namespace Go.Proofs.YtibnfbglanpoiaaGreatDoor
open Go.Proofs.Tryz
open Go.RowKit
theorem all_drop {α:Type}{r:α→Bool}{xs:List α}{k:Nat}(h:k<xs.length):(xs.drop k).all r=(r xs[k]&&(xs.drop (k+1)).all r):=by
 rw [List.drop_eq_getElem_cons h];rfl
theorem bN {w:World}{g:Nat}(hg:w.heap.size=g) (k m:Int) (s:ByteArray) (a b:Value) (t:Nat):qq (w.alloc (.cells #[.int .i64 k,.int .i64 m,.string s,a,b] t)) g k m s a b:=by
 subst hg;exact xr w k m s a b t
theorem rightV_other {n:Nat}{v:VS (V n)}(h:¬ (v.kind=1∨v.kind=2∨v.kind=3∨v.kind=4∨v.kind=5∨v.kind=6)):zr (n+1) v=false:=by
 have e:zr (n+1) v=(zx v&&v.kids.all (zr n)):=rfl
 rw [e]
 have:zx v=false:=by
  unfold zx
  rw [if_neg Ws,if_neg Ws,if_neg Ws,if_neg Ws,if_neg Ws,if_neg Ws]
 rw [this];rfl
theorem bW {n:Nat}{v:VS (V n)}(h:zx v=false):zr (n+1) v=false:=by
 have e:zr (n+1) v=(zx v&&v.kids.all (zr n)):=rfl
 rw [e,h];rfl
def kS (n : Nat) : Prop := ∀ (v : V n) {S : Nat → Prop} {w : World} {cs : List Value}, Rep n S w cs v → yA n v →
    Calls Tryz.prog 64 #[.agg cs.toArray] w fun e w'=>e = .returned (.bool (zr n v))∧zb [] w w'
theorem Qj {n:Nat}(known:kS n):kS (n+1):=fun (v:VS (V n)) {S}{w}{cs} h hs=>by
  have Gx:=qI h
  have Gv:=qI hs
  obtain⟨vl,vm,lcs,mcs,h⟩:=h
  obtain⟨a,c,b,e,rfl,rfl,rfl⟩:=h.forms
  have H:=qI h
  have IH:=qI known
  obtain⟨W1,Ga⟩:∃ W1,Hid (W1=w.alloc (.cells #[.int .i64 v.kind,.int .i64 v.num,.string v.s,.slice a v.l.length c,.slice b v.m.length e] 25)):=⟨_,qI rfl⟩
  have HB:Hid (qq W1 w.heap.size v.kind v.num v.s (.slice a v.l.length c) (.slice b v.m.length e)):=qI (by rw [Ga.o];exact xr w v.kind v.num v.s (.slice a v.l.length c) (.slice b v.m.length e) 25)
  have Gh:Hid (zb [] w W1):=qI (by rw [Ga.o];exact ((zb.refl [] w).alloc _))
  have Jb:Hid (W1.heap.size=w.heap.size+1):=qI (by rw [Ga.o];simp)
  have hlv:v.l.length≤20000:=by have:=hs.few;omega
  have hmv:v.m.length≤20000:=by have:=hs.few;omega
  have hsv:(v.s.size:Int)≤400000:=by have:=hs.2;have e:yl (n+1) v=v.s.size+v.keyBytes+(v.kids.map (yl n)).sum:=rfl;omega
  have Gp:Hid (∀ p,p∈v.m→p.1.size≤400000):=qI fun p hp=>Nat.le_trans (key_le hp) hs.2
  obtain⟨c0,c1,c2,c3,c4⟩:=HB.o
  rw [Ga.o] at c0 c1 c2 c3 c4
  clear h hs
  go_enter func64,ntmps64
  go_upto_block 0 with fail
  go_cut [] from 12 to 58 (fun wr=>∃ (m:Int) (s:ByteArray) (l k:Nat) (al am:Option Addr) (cl cm:Nat),zb [] W1 wr∧qq wr (w.heap.size+1) v.kind m s (.slice al l cl) (.slice am k cm)∧Hid (vY v m s l k))
  case first=>
   by_cases k1:v.kind=1
   ·have f1:=(xH k1).1
    have Gb:Hid (vY v 0 ⟨#[]⟩ 0 0):=qI (.inl ⟨k1,rfl,rfl,rfl,rfl⟩)
    clear k1
    go_wp2_with fail
    go_meet
    exact⟨0,⟨#[]⟩,0,0,_,_,_,_,by rw [Ga.o];exact Wd.alloc _,bN Wz _ _ _ _ _ _,Gb⟩
   have f1:=(yF k1).1
   by_cases k2:v.kind=2
   ·have f2:=(xH k2).1
    by_cases n0:v.num=0
    ·have g0:=xH n0
     have Gb:Hid (vY v v.num ⟨#[]⟩ 0 0):=qI (.inr (.inl ⟨k2,.inl n0,rfl,rfl,rfl,rfl⟩))
     obtain⟨g1,g2⟩:=g0
     clear k1 k2 n0
     go_wp2_with fail
     go_meet
     exact⟨v.num,⟨#[]⟩,0,0,_,_,_,_,by rw [Ga.o];exact Wd.alloc _,bN Wz _ _ _ _ _ _,Gb⟩
    obtain⟨g1,g2⟩:=yF n0
    by_cases n1:v.num=1
    ·obtain⟨g3,g4⟩:=xH n1
     have Gb:Hid (vY v v.num ⟨#[]⟩ 0 0):=qI (.inr (.inl ⟨k2,.inr n1,rfl,rfl,rfl,rfl⟩))
     clear k1 k2 n0 n1
     go_wp2_with fail
     go_meet
     exact⟨v.num,⟨#[]⟩,0,0,_,_,_,_,by rw [Ga.o];exact Wd.alloc _,bN Wz _ _ _ _ _ _,Gb⟩
    ·obtain⟨g3,g4⟩:=yF n1
     have HF:Hid (zr (n+1) v=false):=qI (bW (by unfold zx;rw [if_neg k1,if_pos k2];simp [n0,n1]))
     clear k1 k2 n0 n1
     go_wp2_with fail
     go_ret
     rw [HF.o]
     exact⟨rfl,by have h1:=Gh.o;rw [Ga.o] at h1;exact h1.alloc _⟩
   have f2:=(yF k2).1
   by_cases k3:v.kind=3
   ·have f3:=(xH k3).1
    by_cases n0:v.num < -9007199254740991
    ·have HF:Hid (zr (n+1) v=false):=qI (bW (by unfold zx;rw [if_neg k1,if_neg k2,if_pos k3,decide_eq_false Ws];simp))
     clear k1 k2 k3
     go_wp2_with fail
     go_ret
     rw [HF.o]
     exact⟨rfl,by have h1:=Gh.o;rw [Ga.o] at h1;exact h1.alloc _⟩
    by_cases n1:9007199254740991<v.num
    ·have HF:Hid (zr (n+1) v=false):=qI (bW (by unfold zx;rw [if_neg k1,if_neg k2,if_pos k3,decide_eq_false Ws];simp))
     clear k1 k2 k3
     go_wp2_with fail
     go_ret
     rw [HF.o]
     exact⟨rfl,by have h1:=Gh.o;rw [Ga.o] at h1;exact h1.alloc _⟩
    ·have Gb:Hid (vY v v.num ⟨#[]⟩ 0 0):=qI (.inr (.inr (.inl ⟨k3,Ws,rfl,rfl,rfl,rfl⟩)))
     clear k1 k2 k3
     go_wp2_with fail
     go_meet
     exact⟨v.num,⟨#[]⟩,0,0,_,_,_,_,by rw [Ga.o];exact Wd.alloc _,bN Wz _ _ _ _ _ _,Gb⟩
   have f3:=(yF k3).1
   by_cases k4:v.kind=4
   ·have f4:=(xH k4).1
    cases hb:zQ v.s with
    | true=>
     have Gb:Hid (vY v 0 v.s 0 0):=qI (.inr (.inr (.inr (.inl ⟨k4,hb,rfl,rfl,rfl,rfl⟩))))
     have Gq:=qI hb
     clear k1 k2 k3 k4 hb
     go_wp2_with (go_at_call 103;refine (bY v.s Ws _).mono ?_;rw [Gq.o];rintro e w2 ⟨rfl,hk2⟩)
     go_meet
     exact⟨0,v.s,0,0,_,_,_,_,by rw [Ga.o];exact (Wd.alloc _).then hk2,(bN Wz _ _ _ _ _ _).kept0 hk2,Gb⟩
    | false=>
     have HF:Hid (zr (n+1) v=false):=qI (bW (by unfold zx;rw [if_neg k1,if_neg k2,if_neg k3,if_pos k4,hb];simp))
     have Gq:=qI hb
     clear k1 k2 k3 k4 hb
     go_wp2_with (go_at_call 103;refine (bY v.s Ws _).mono ?_;rw [Gq.o];rintro e w2 ⟨rfl,hk2⟩)
     go_ret
     rw [HF.o]
     exact⟨rfl,by have h1:=Gh.o;rw [Ga.o] at h1;exact (h1.alloc _).then hk2⟩
   have f4:=(yF k4).1
   by_cases k5:v.kind=5
   ·have f5:=(xH k5).1
    have Gb:Hid (vY v 0 ⟨#[]⟩ v.l.length 0):=qI (.inr (.inr (.inr (.inr (.inl ⟨k5,rfl,rfl,rfl,rfl⟩)))))
    clear k1 k2 k3 k4 k5
    go_wp2_with fail
    go_meet
    exact⟨0,⟨#[]⟩,v.l.length,0,_,_,_,_,by rw [Ga.o];exact Wd.alloc _,bN Wz _ _ _ _ _ _,Gb⟩
   have f5:=(yF k5).1
   by_cases k6:v.kind=6
   ·have f6:=(xH k6).1
    have Gb:Hid (vY v 0 ⟨#[]⟩ 0 v.m.length):=qI (.inr (.inr (.inr (.inr (.inr ⟨k6,rfl,rfl,rfl,rfl⟩)))))
    clear k1 k2 k3 k4 k5 k6
    go_wp2_with fail
    go_meet
    exact⟨0,⟨#[]⟩,0,v.m.length,_,_,_,_,by rw [Ga.o];exact Wd.alloc _,bN Wz _ _ _ _ _ _,Gb⟩
   ·have f6:=(yF k6).1
    have HF:Hid (zr (n+1) v=false):=qI (rightV_other Ws)
    clear k1 k2 k3 k4 k5 k6
    go_wp2_with fail
    go_ret
    rw [HF.o]
    exact⟨rfl,by have h1:=Gh.o;rw [Ga.o] at h1;exact h1.alloc _⟩
  case rest=>
   obtain⟨m,s,l,k,al,am,cl,cm,hkr,hb,Gg⟩:=hcut
   have Gi:=qI (right_bare Gg.o)
   have Jc:=qI hkr
   have Gc:=qI (Gh.o.trans' hkr)
   have Gr:=qI (HB.o.kept0 hkr)
   clear c0 c1 c2 c3 c4
   obtain⟨c0,c1,c2,c3,c4⟩:=Gr.o
   obtain⟨d0,d1,d2,d3,d4⟩:=hb
   clear hkr Gg
   by_cases hnum:v.num=m
   rotate_left
   ·obtain⟨f1,f2⟩:=yF hnum
    have HF:Hid (zr (n+1) v=false):=qI (by rw [Gi.o];simp [hnum])
    clear hnum
    go_wp2_with fail
    go_ret
    rw [HF.o]
    exact⟨rfl,Gc.o⟩
   obtain⟨g1,g2⟩:=xH hnum
   have Hnum:=qI hnum
   clear hnum
   by_cases hstr:v.s=s
   rotate_left
   ·obtain⟨f1,f2⟩:=ke hstr
    have HF:Hid (zr (n+1) v=false):=qI (by rw [Gi.o];simp [hstr])
    clear hstr
    go_wp2_with fail
    go_ret
    rw [HF.o]
    exact⟨rfl,Gc.o⟩
   obtain⟨g3,g4⟩:=ky hstr
   have Hstr:=qI hstr
   clear hstr
   by_cases hl:v.l.length=l
   rotate_left
   ·obtain⟨f1,f2⟩:=QI hl
    have HF:Hid (zr (n+1) v=false):=qI (by rw [Gi.o];simp [hl])
    clear hl
    go_wp2_with fail
    go_ret
    rw [HF.o]
    exact⟨rfl,Gc.o⟩
   obtain⟨g5,g6⟩:=nat_eq hl
   have Hl:=qI hl
   clear hl
   by_cases hm:v.m.length=k
   rotate_left
   ·obtain⟨f1,f2⟩:=QI hm
    have HF:Hid (zr (n+1) v=false):=qI (by rw [Gi.o];simp [hm])
    clear hm
    go_wp2_with fail
    go_ret
    rw [HF.o]
    exact⟨rfl,Gc.o⟩
   obtain⟨g7,g8⟩:=nat_eq hm
   have Hm:=qI hm
   clear hm
   have Gk:Hid (zr (n+1) v=(v.l.all (zr n)&&qH (zr n) [] v.m)):=qI (by rw [Gi.o];simp [Hnum.o,Hstr.o,Hl.o,Hm.o])
   go_wp2_with fail
   clear c0 c1 c2 c3 c4 d0 d1 d2 d3 d4 g1 g2 g3 g4 g5 g6 g7 g8 Gi Hnum Hstr Hl Hm
   go_loopw [4] (fun i wr=>∃ k:Nat,i = .int .i64 k∧k≤v.l.length∧(v.l.drop k).all (zr n)=v.l.all (zr n)∧zb [] wc wr) (fun i _=>v.l.length-(intOf i).toNat)
   case atStart=>exact⟨0,rfl,Nat.zero_le _,rfl,Wd⟩
   case round=>
    obtain⟨k,rfl,hk,hg,hkr⟩:=hrel
    have HG:=qI hg
    have Gl:=qI hkr
    have Ge:=qI (Gc.o.trans' hkr)
    obtain⟨c0,c1,c2,c3,c4⟩:=Gr.o.kept0 hkr
    clear hg hkr
    by_cases hlt:k<v.l.length
    ·have hltI:(k:Int)<v.l.length:=by omega
     obtain⟨g,o,cap,kd,nm,st,a1,b1,he,q0,q1,q2,q3,q4,hr⟩:=H.o.at_l Ge.o k hlt
     simp only [Value.slice.injEq] at he
     obtain⟨rfl,-,rfl⟩:=he
     have CL:=qI (IH.o _ hr (Gv.o.kid (kZ (List.getElem_mem hlt))))
     have HD:=qI (all_drop (r:=zr n) hlt)
     clear hr
     revert CL HD
     generalize zr n v.l[k]=r
     intro CL HD
     cases r
     ·go_wp2_with (go_at_call 64;refine CL.o.mono ?_;rintro e w2 ⟨rfl,hk2⟩)
      go_ret
      rw [Gk.o,← HG.o,HD.o]
      exact⟨Wz,Ge.o.then hk2⟩
     ·go_wp2_with (go_at_call 64;refine CL.o.mono ?_;rintro e w2 ⟨rfl,hk2⟩)
      case roundEnd=>
       refine⟨⟨k+1,by go_num,Ws,?_,Gl.o.then hk2⟩,by simp [intOf];omega⟩
       rw [← HG.o,HD.o]
       simp
    ·obtain rfl:k=v.l.length:=by omega
     have Gf:Hid (zr (n+1) v=qH (zr n) [] v.m):=qI (by rw [Gk.o,← HG.o,List.drop_length];simp)
     have Gm:=qI Gl.o
     go_wp2_with fail
     clear HG Ge Gl c0 c1 c2 c3 c4
     go_loopw [5] (fun i wr=>∃ k:Nat,i = .int .i64 k∧k≤v.m.length∧qH (zr n) ((v.m.take k).map (fun p=>p.1)) (v.m.drop k)=qH (zr n) [] v.m∧zb [] wc wr) (fun i _=>v.m.length-(intOf i).toNat)
     case atStart=>exact⟨0,rfl,Nat.zero_le _,rfl,Gm.o⟩
     case round=>
      obtain⟨k,rfl,hk,hg,hkr⟩:=hrel
      have HG:=qI hg
      have Gl:=qI hkr
      have Ge:=qI (Gc.o.trans' hkr)
      have Gb:=qI (Gr.o.kept0 hkr)
      obtain⟨c0,c1,c2,c3,c4⟩:=Gb.o
      clear hg hkr Gm
      by_cases hlt:k<v.m.length
      ·have hltI:(k:Int)<v.m.length:=by omega
       obtain⟨g,o,cap,kd,nm,st,a1,b1,he,q0,q1,q2,q3,q4,q5,hr⟩:=H.o.at_m Ge.o k hlt
       simp only [Value.slice.injEq] at he
       obtain⟨rfl,-,rfl⟩:=he
       have hk3:v.m[k].1.size≤281474976710656:=by have:=Gp.o _ (List.getElem_mem hlt);omega
       have CL:Hid (CK wr 64 #[.agg #[.int .i64 kd,.int .i64 nm,.string st,a1,b1]] (.bool (zr n v.m[k].2))):=qI fun w2 hk=>IH.o _ (hr.kept0 hk) (Gv.o.kid (k9 (List.getElem_mem hlt)))
       have CV:=qI (bY v.m[k].1 hk3 wr)
       have HD:Hid (qH (zr n) ((v.m.take k).map (fun p=>p.1)) (v.m.drop k)=(zQ v.m[k].1&&zr n v.m[k].2 && !(((v.m.take k).map (fun p=>p.1)).any (fun x=>decide (x=v.m[k].1)))&&qH (zr n) ((v.m.take (k+1)).map (fun p=>p.1)) (v.m.drop (k+1)))):=qI (by
        rw [List.drop_eq_getElem_cons hlt,xK _ _ _ hlt]
        rfl)
       clear hr hk3
       revert CL CV HD
       generalize hkey:v.m[k].1=key at q0
       generalize zr n v.m[k].2=r
       generalize zQ key=ok
       intro CL CV HD
       have Hkey:=qI hkey
       clear hkey
       cases ok with
       | false=>
        go_wp2_with (go_at_call 103;refine CV.o.mono ?_;rintro e w2 ⟨rfl,hk2⟩)
        go_ret
        rw [Gf.o,← HG.o,HD.o]
        exact⟨Wz,Ge.o.then hk2⟩
       | true=>
        cases r with
        | false=>
         go_wp2_with (first
          | (go_at_call 103;refine CV.o.mono ?_;rintro e w2 ⟨rfl,hk2⟩;have Gj:=qI hk2;have e4:=hk2.cell c4 Wz;have e1:=hk2.cell q1 Wz;have e2:=hk2.cell q2 Wz;have e3:=hk2.cell q3 Wz;have e5:=hk2.cell q4 Wz;have e6:=hk2.cell q5 Wz;clear hk2)
          | (go_at_call 64;refine (CL.o _ Gj.o).mono ?_;rintro e w3 ⟨rfl,hk3⟩))
         go_ret
         rw [Gf.o,← HG.o,HD.o]
         exact⟨Wz,(Ge.o.then Gj.o).then hk3⟩
        | true=>
         go_wp2_with (first
          | (go_at_call 103;refine CV.o.mono ?_;rintro e w2 ⟨rfl,hk2⟩;have Gj:=qI hk2;have e4:=hk2.cell c4 Wz;have e1:=hk2.cell q1 Wz;have e2:=hk2.cell q2 Wz;have e3:=hk2.cell q3 Wz;have e5:=hk2.cell q4 Wz;have e6:=hk2.cell q5 Wz;clear hk2)
          | (go_at_call 64;refine (CL.o _ Gj.o).mono ?_;rintro e w3 ⟨rfl,hk3⟩))
         have Gy:=qI (Gj.o.then hk3)
         clear hk3 Gj e1 e2 e3 e4 e5 e6 CL CV
         have Gw:Hid (qH (zr n) ((v.m.take k).map (fun p=>p.1)) (v.m.drop k)=(!(((v.m.take k).map (fun p=>p.1)).any (fun x=>decide (x=key)))&&qH (zr n) ((v.m.take (k+1)).map (fun p=>p.1)) (v.m.drop (k+1)))):=qI (by rw [HD.o];simp)
         have Gs:Hid (wr.cell? ⟨g,o+k*6,none⟩=some (.string key)):=qI q0
         clear HD c0 c1 c2 c3 c4 q0 q1 q2 q3 q4 q5
         go_loopw [6] (fun i wr3=>∃ j:Nat,i = .int .i64 j∧j≤k∧((v.m.take j).map (fun p=>p.1)).any (fun x=>decide (x=key))=false∧zb [] wr wr3) (fun i _=>k-(intOf i).toNat)
         case atStart=>exact⟨0,rfl,Nat.zero_le _,rfl,Gy.o⟩
         case round=>
          obtain⟨j,rfl,hj,hany,hkr3⟩:=hrel
          have Gn:=qI hany
          have Gd:=qI hkr3
          clear hany hkr3
          by_cases hjt:j<k
          ·have hjI:(j:Int)<k:=by omega
           have hjm:j<v.m.length:=Ws
           have hjmI:(j:Int)<v.m.length:=Ws
           obtain⟨c0,c1,c2,c3,c4⟩:=Gb.o.kept0 Gd.o
           have q0:=Gd.o.cell Gs.o Wz
           obtain⟨g2,o2,cap2,kd2,nm2,st2,a2,b2,he,p0,p1,p2,p3,p4,p5,-⟩:=H.o.at_m (Ge.o.then Gd.o) j hjm
           simp only [Value.slice.injEq,Option.some.injEq,Addr.mk.injEq] at he
           obtain⟨⟨rfl,rfl,-⟩,-,-⟩:=he
           have Gt:Hid (((v.m.take (j+1)).map (fun p=>p.1)).any (fun x=>decide (x=key))=decide (v.m[j].1=key)):=qI (by rw [xK _ _ _ hjm,List.any_append,Gn.o];simp)
           have Gu:Hid (v.m[j].1=key→((v.m.take k).map (fun p=>p.1)).any (fun x=>decide (x=key))=true):=qI fun e=>List.any_eq_true.2 ⟨key,List.mem_map.2 ⟨v.m[j],List.mem_take_iff_getElem.2 ⟨j,Ws,rfl⟩,e⟩,Wz⟩
           have E0:=zz c4
           have E1:=zz q0
           have E2:=zz p0
           revert E2 Gt Gu
           generalize v.m[j].1=key2
           intro Gt Gu E2
           by_cases hkk:key2=key
           ·obtain⟨f1,f2⟩:=ky hkk
            have Gz:=qI (Gu.o hkk)
            clear hkk
            go_wp2_with fail
            refine yn wr Wr Wr Wd ?_
            clear c0 c1 c2 c3 c4 q0 p0 p1 p2 p3 p4 p5
            repeat go_big_quiet_step (fail)
            refine wpQuiet_nil ?_
            intro w5 hk5
            go_wp2_with fail
            go_ret
            rw [Gf.o,← HG.o,Gw.o,Gz.o]
            exact⟨Wz,(Ge.o.then Gd.o).then hk5⟩
           ·obtain⟨f1,f2⟩:=ke hkk
            have Ja:Hid (((v.m.take (j+1)).map (fun p=>p.1)).any (fun x=>decide (x=key))=false):=qI (by rw [Gt.o];exact decide_eq_false hkk)
            clear hkk
            go_wp2_with fail
            refine yn wr Wr Wr Wd ?_
            clear c0 c1 c2 c3 c4 q0 p0 p1 p2 p3 p4 p5
            repeat go_big_quiet_step (fail)
            refine wpQuiet_nil ?_
            intro w5 hk5
            go_wp2_with fail
            case roundEnd=>exact⟨⟨j+1,by go_num,Ws,Ja.o,Gd.o.then hk5⟩,by simp [intOf];omega⟩
          ·obtain rfl:j=k:=by omega
           go_wp2_with fail
           case roundEnd=>
            refine⟨⟨j+1,by go_num,Ws,?_,Gl.o.then Gd.o⟩,by simp [intOf];omega⟩
            rw [← HG.o,Gw.o,Gn.o]
            simp
      ·obtain rfl:k=v.m.length:=by omega
       go_wp2_with fail
       go_ret
       rw [Gf.o,← HG.o,List.drop_length]
       exact⟨rfl,Ge.o⟩
theorem vw:∀ (n:Nat),kS n
 | 0=>fun v {_}{_}{_} h _=>h.elim
 | n+1=>Qj (vw n)
theorem refRight_any:∀ (n:Nat) (v:V n) {S:Nat→Prop}{w:World}{cs:List Value},Rep n S w cs v→yA n v →
  Calls Tryz.prog 64 #[.agg cs.toArray] w fun e w'=>e = .returned (.bool (zr n v))∧zb [] w w':=fun n=>vw n
end Go.Proofs.YtibnfbglanpoiaaGreatDoor

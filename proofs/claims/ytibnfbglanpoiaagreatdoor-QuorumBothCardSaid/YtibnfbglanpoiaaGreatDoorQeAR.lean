/- Parts of one proof, merged: XEH. -/
import Derived.Test.YtibnfbglanpoiaaGreatDoorQeT
set_option linter.all false
set_option maxHeartbeats 12800000
set_option maxRecDepth 100000
namespace Go.Proofs.YtibnfbglanpoiaaGreatDoor
open Go.Proofs.Tryz
open Go.RowKit
theorem all_snoc {α:Type}(p:α→Bool) (l:List α) (k:Nat) (hk:k<l.length):(l.take (k+1)).all p=((l.take k).all p&&p l[k]):=by
 rw [List.take_succ_eq_append_getElem hk,List.all_append]
 simp
theorem all_false {α:Type}{p:α→Bool}{l:List α}{k:Nat}(hk:k<l.length) (h:p l[k]=false):l.all p=false:=by
 rw [List.all_eq_false]
 exact⟨l[k],List.getElem_mem _,by simp [h]⟩
theorem Qb {n:Nat}{S:Nat→Prop}{w:World}{cs:List Value}{v:V n}{a:Option Addr}{c:Nat}{l:List yr}(h:Env n S w cs v a c l) :
  CL w 13 #[.agg (vG cs a l.length c).toArray] (.bool (yj n v l)):=by
 obtain⟨kd,nm,st,p1,i1,d1,p2,i2,d2,rfl⟩:=h.rep.conv
 obtain⟨W0,Gb⟩:∃ W0,Hid (W0=w.alloc (.cells #[.int .i64 kd,.int .i64 nm,.string st,.slice p1 i1 d1,.slice p2 i2 d2,.slice a l.length c] 28)):=⟨_,qI rfl⟩
 have Ga:Hid (zb [] w W0):=qI (kA1 Gb.o)
 have Gd:Hid (W0.heap[w.heap.size]? = some (.cells #[.int .i64 kd,.int .i64 nm,.string st,.slice p1 i1 d1,.slice p2 i2 d2,.slice a l.length c] 28 (0,0))):=qI (by rw [Gb.o];exact zd rfl)
 have HE:=qI (h.kept0 Ga.o)
 have CC:Hid (CK W0 30 #[.agg #[.int .i64 kd,.int .i64 nm,.string st,.slice p1 i1 d1,.slice p2 i2 d2]] (.int .i64 (yQ n v))):=qI (fun w2 hk=>Y9 (HE.o.rep.kept0 hk) HE.o.small HE.o.deep)
 have CD:Hid (CK W0 31 #[.agg #[.int .i64 kd,.int .i64 nm,.string st,.slice p1 i1 d1,.slice p2 i2 d2]] (.int .i64 (zE n v))):=qI (fun w2 hk=>depth_any n v (HE.o.rep.kept0 hk) HE.o.small HE.o.deep)
 have HM:Hid (yj n v l=(decide (kd=6)&&(decide (yQ n v=0)&&(decide (zE n v<12)&&(decide (l.length≤16)&&l.all yX))))):=qI (by unfold yj;rw [← HE.o.rep.kindE])
 have Gn:Hid (∀ i (hi:i<l.length),∃ g o,a=some ⟨g,o,none⟩∧W0.cell? ⟨g,o+i*2,none⟩=some (.string l[i].id)∧W0.cell? ⟨g,o+i*2+1,none⟩=some (.string l[i].sig)∧l[i].small):=qI (fun i hi=>by
  obtain⟨g,o,h1,-,-,h2⟩:=HE.o.rows.cells Ws
  exact⟨g,o,h1,h2 i hi 0 _ rfl,h2 i hi 1 _ rfl,h.texts _ (List.getElem_mem _)⟩)
 have hdm:zE n v≤100:=Nat.le_trans (kC n v) h.deep
 have hlm:=h.few
 clear h
 generalize yj n v l=M at HM ⊢
 generalize yQ n v=K at CC HM
 generalize zE n v=D at CD HM hdm
 obtain⟨m,Gh⟩:∃ m,Hid (m=l.length):=⟨_,qI rfl⟩
 rw [← Gh.o] at Gb Gd HM hlm
 have hdI:(D:Int)≤100:=Ws
 have hmI:(m:Int)≤1000000:=Ws
 obtain⟨c0,c1,c2,c3,c4,c5⟩:=xT Gd.o
 show Calls _ _ #[.agg #[.int .i64 kd,.int .i64 nm,.string st,.slice p1 i1 d1,.slice p2 i2 d2,.slice a l.length c]] _ _
 rw [← Gh.o]
 by_cases h6:kd=6
 rotate_left
 ·obtain⟨f1,f2⟩:=yF h6
  rw [decide_eq_false h6] at HM
  clear h6
  go_enter func13,ntmps13
  go_upto_region 1 with fail
  refine yq Gb.o ?_
  go_wp2_with fail
  go_ret
  exact⟨by rw [HM.o];rfl,Ga.o⟩
 rw [decide_eq_true h6] at HM
 subst h6
 by_cases hc:K=0
 rotate_left
 ·obtain⟨f1,f2⟩:=yF hc
  rw [decide_eq_false hc] at HM
  clear hc
  go_enter func13,ntmps13
  go_upto_region 1 with fail
  refine yq Gb.o ?_
  go_wp2_with (go_at_call 30;refine (CC.o _ Wd).mono ?_;rintro e w1 ⟨rfl,hk⟩;have y0:=hk.cell c0 Wz;have y1:=hk.cell c1 Wz;have y2:=hk.cell c2 Wz;have y3:=hk.cell c3 Wz;have y4:=hk.cell c4 Wz;have y5:=hk.cell c5 Wz;have HK:=qI hk;clear hk c0 c1 c2 c3 c4 c5)
  go_ret
  exact⟨by rw [HM.o];rfl,Ga.o.then HK.o⟩
 rw [decide_eq_true hc] at HM
 subst hc
 by_cases hd:D<12
 rotate_left
 ·have hdI2:(11:Int)<D:=by omega
  rw [decide_eq_false hd] at HM
  clear hd
  go_enter func13,ntmps13
  go_upto_region 1 with fail
  refine yq Gb.o ?_
  go_wp2_with first
   | (go_at_call 30;refine (CC.o _ Wd).mono ?_;rintro e w1 ⟨rfl,hk⟩;have y0:=hk.cell c0 Wz;have y1:=hk.cell c1 Wz;have y2:=hk.cell c2 Wz;have y3:=hk.cell c3 Wz;have y4:=hk.cell c4 Wz;have y5:=hk.cell c5 Wz;have HK:=qI hk;clear hk c0 c1 c2 c3 c4 c5)
   | (go_at_call 31;refine (CD.o _ HK.o).mono ?_;rintro e w2 ⟨rfl,hk⟩;have z5:=hk.cell y5 Wz;have Gf:=qI (HK.o.then hk);clear hk y0 y1 y2 y3 y4 y5)
  go_ret
  exact⟨by rw [HM.o];rfl,Ga.o.then Gf.o⟩
 have hdI2:(D:Int)≤11:=Ws
 rw [decide_eq_true hd] at HM
 clear hd
 by_cases hm:m≤16
 rotate_left
 ·have hmI2:(16:Int)<m:=by omega
  rw [decide_eq_false hm] at HM
  clear hm
  go_enter func13,ntmps13
  go_upto_region 1 with fail
  refine yq Gb.o ?_
  go_wp2_with first
   | (go_at_call 30;refine (CC.o _ Wd).mono ?_;rintro e w1 ⟨rfl,hk⟩;have y0:=hk.cell c0 Wz;have y1:=hk.cell c1 Wz;have y2:=hk.cell c2 Wz;have y3:=hk.cell c3 Wz;have y4:=hk.cell c4 Wz;have y5:=hk.cell c5 Wz;have HK:=qI hk;clear hk c0 c1 c2 c3 c4 c5)
   | (go_at_call 31;refine (CD.o _ HK.o).mono ?_;rintro e w2 ⟨rfl,hk⟩;have z5:=hk.cell y5 Wz;have Gf:=qI (HK.o.then hk);clear hk y0 y1 y2 y3 y4 y5)
  go_ret
  exact⟨by rw [HM.o];rfl,Ga.o.then Gf.o⟩
 ·have hmI2:(m:Int)≤16:=by omega
  rw [decide_eq_true hm] at HM
  have Gk:Hid (M=l.all yX):=qI (by rw [HM.o];rfl)
  clear hm HM
  go_enter func13,ntmps13
  go_upto_region 1 with fail
  refine yq Gb.o ?_
  have Gp:=qI c5
  go_wp2_with first
   | (go_at_call 30;refine (CC.o _ Wd).mono ?_;rintro e w1 ⟨rfl,hk⟩;have y0:=hk.cell c0 Wz;have y1:=hk.cell c1 Wz;have y2:=hk.cell c2 Wz;have y3:=hk.cell c3 Wz;have y4:=hk.cell c4 Wz;have y5:=hk.cell c5 Wz;have HK:=qI hk;clear hk c0 c1 c2 c3 c4 c5)
   | (go_at_call 31;refine (CD.o _ HK.o).mono ?_;rintro e w2 ⟨rfl,hk⟩;have z5:=hk.cell y5 Wz;have Gf:=qI (HK.o.then hk);clear hk y0 y1 y2 y3 y4 y5)
  go_loopw [3,4,5] (fun t3 _ _ wr=>∃ k:Nat,t3 = .int .i64 k∧k≤m∧Hid (zb [] W0 wr)∧Hid ((l.take k).all yX=true)) (fun t3 _ _ _=>m-(intOf t3).toNat)
  case atStart=>exact⟨0,rfl,Nat.zero_le _,Gf,qI Wz⟩
  case round=>
   obtain⟨k,rfl,hk,Gc,Gl⟩:=hrel
   have x5:=Gc.o.cell Gp.o Wz
   clear z5
   rcases Nat.lt_or_ge k m with hlt | hge
   ·have hkl:k<l.length:=by have:=Gh.o;omega
    obtain⟨g,o,rfl,q0,q1,hsm⟩:=Gn.o k hkl
    have e0:=Gc.o.cell q0 Wz
    have e1:=Gc.o.cell q1 Wz
    clear q0 q1
    have hkI:(k:Int)<m:=Ws
    have Gm:=qI hlt
    have Gi:Hid (yX l[k]=false→M=false):=qI (fun h9=>by rw [Gk.o];exact all_false hkl h9)
    have Gg:Hid (yX l[k]=true→(l.take (k+1)).all yX=true):=qI (fun h9=>by rw [all_snoc _ _ _ hkl,Gl.o,h9];rfl)
    have HR:Hid (yX l[k]=(qo l[k].id&&((yJ l[k].sig).isSome&&decide (l[k].sig.size≤1048576)))):=qI rfl
    have CU:Hid (∀ w2,Calls Tryz.prog 32 #[.string l[k].sig] w2 fun e w'=>UnhexR w2 w' e (yJ l[k].sig)∧zb [] w2 w'):=qI (fun w2=>bS l[k].sig hsm.2 w2)
    have CI:Hid (∀ w2,Calls Tryz.prog 33 #[.string l[k].id] w2 fun e w'=>e = .returned (.bool (qo l[k].id))∧zb [] w2 w'):=qI (fun w2=>refId_any l[k].id hsm.1 w2)
    have hsz:=hsm.2
    generalize yX l[k]=rb at Gi Gg HR
    generalize qo l[k].id=ib at CI HR
    generalize l[k].id=s1 at e0 CI
    generalize yJ l[k].sig=us at CU HR
    generalize l[k].sig=s2 at e1 CU HR hsz
    clear hk hlt hkl hsm
    cases us with
    | none=>
     have HF:Hid (M=false):=qI (Gi.o (by rw [HR.o];cases ib <;> rfl))
     go_wp2_with (go_at_call 32;refine (CU.o _).mono ?_;rintro e w3 ⟨hu,hk3⟩;have hu:e = .returned (.tuple #[.slice none 0 0,.bool false]):=hu;subst hu;have Ge:=qI hk3;clear hk3)
     go_ret
     exact⟨by rw [HF.o] <;> rfl,Ga.o.then (Gc.o.then Ge.o)⟩
    | some b=>
     by_cases hz:s2.size≤1048576
     rotate_left
     ·have hzI:(1048576:Int)<s2.size:=by omega
      have HF:Hid (M=false):=qI (Gi.o (by rw [HR.o,decide_eq_false hz];cases ib <;> rfl))
      clear hz hsz
      go_wp2_with (go_at_call 32;refine (CU.o _).mono ?_;rintro e w3 ⟨⟨a3,c3',rfl,-,-⟩,hk3⟩;have e1:=hk3.cell e1 Wz;have x5:=hk3.cell x5 Wz;have Ge:=qI hk3;clear hk3)
      go_ret
      exact⟨by rw [HF.o] <;> rfl,Ga.o.then (Gc.o.then Ge.o)⟩
     ·have hzI:(s2.size:Int)≤1048576:=by omega
      rw [decide_eq_true hz] at HR
      clear hz hsz
      cases ib with
      | false=>
       have HF:Hid (M=false):=qI (Gi.o (by rw [HR.o];rfl))
       go_wp2_with first
        | (go_at_call 32;refine (CU.o _).mono ?_;rintro e w3 ⟨⟨a3,c3',rfl,-,-⟩,hk3⟩;have e0:=hk3.cell e0 Wz;have e1:=hk3.cell e1 Wz;have x5:=hk3.cell x5 Wz;have Ge:=qI hk3;clear hk3)
        | (go_at_call 33;refine (CI.o _).mono ?_;rintro e w4 ⟨rfl,hk4⟩;have Gj:=qI (Ge.o.then hk4);clear hk4)
       go_ret
       exact⟨by rw [HF.o] <;> rfl,Ga.o.then (Gc.o.then Gj.o)⟩
      | true=>
       have HT:Hid ((l.take (k+1)).all yX=true):=qI (Gg.o (by rw [HR.o];rfl))
       go_wp2_with first
        | (go_at_call 32;refine (CU.o _).mono ?_;rintro e w3 ⟨⟨a3,c3',rfl,-,-⟩,hk3⟩;have e0:=hk3.cell e0 Wz;have e1:=hk3.cell e1 Wz;have x5:=hk3.cell x5 Wz;have Ge:=qI hk3;clear hk3)
        | (go_at_call 33;refine (CI.o _).mono ?_;rintro e w4 ⟨rfl,hk4⟩;have Gj:=qI (Ge.o.then hk4);clear hk4)
       case roundEnd=>exact⟨⟨k+1,by go_num,Gm.o,qI (Gc.o.then Gj.o),HT⟩,by have:=Gm.o;simp [intOf];omega⟩
   ·obtain rfl:k=m:=by omega
    have HT:Hid (M=true):=qI (by have h1:=Gl.o;rw [List.take_of_length_le (by have:=Gh.o;omega)] at h1;rw [Gk.o,h1])
    have hge0:¬ ((k:Int)<k):=Ws
    clear hge hk
    go_wp2_with fail
    go_ret
    exact⟨by rw [HT.o] <;> rfl,Ga.o.then Gc.o⟩
end Go.Proofs.YtibnfbglanpoiaaGreatDoor

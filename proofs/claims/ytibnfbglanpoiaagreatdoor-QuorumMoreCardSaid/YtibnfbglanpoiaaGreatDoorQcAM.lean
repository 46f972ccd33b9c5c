/- Parts of one proof, merged: XEC XEH. -/
import Derived.Test.YtibnfbglanpoiaaGreatDoorQcS
import Derived.Test.YtibnfbglanpoiaaGreatDoorQcAL
import Derived.Test.YtibnfbglanpoiaaGreatDoorQcY
import Derived.Test.YtibnfbglanpoiaaGreatDoorQcAG
import Derived.Test.YtibnfbglanpoiaaGreatDoorQcR
set_option linter.all false
set_option maxHeartbeats 12800000
set_option maxRecDepth 10000
set_option linter.unusedVariables false
set_option linter.unusedSimpArgs false
set_option linter.unnecessarySimpa false
namespace Go.Proofs.YtibnfbglanpoiaaGreatDoor
open Go.Proofs.Tryz
open Go.RowKit
attribute [local go_sem] Oper.semAt_some
structure Back (B g:Nat) (W w:World) (kd nm:Int) (st:ByteArray) (x y:Value) (a:Option Addr) (k c:Nat) (l:List yh):Prop where
 box:ZB w g kd nm st x y (.slice a k c)
 row:w.ownsRow B 40 2 (.slice a k c) k (xV l)
 kept:zb [g] W w
 base:W.heap.size≤B
theorem validL_len {n:Nat}(v:V n) (l:List yh) (r:kf) (keys:List xT):(zL n v l r keys).length≤r.keys.length:=by
 unfold zL
 split
 ·exact List.length_filter_le _ _
 ·exact Nat.zero_le _
theorem all_snoc {α:Type}(p:α→Bool) (l:List α) (k:Nat) (hk:k < l.length):(l.take (k + 1)).all p=((l.take k).all p && p l[k]):=by
 rw [List.take_succ_eq_append_getElem hk,List.all_append]
 simp
theorem all_false {α:Type}{p:α→Bool}{l:List α}{k:Nat}(hk:k < l.length) (h:p l[k]=false):l.all p=false:=by
 rw [List.all_eq_false]
 exact⟨l[k],List.getElem_mem _,by simp [h]⟩
set_option maxRecDepth 100000 in
theorem refMay17_any {n:Nat}{S:Nat→Prop}{w:World}{cs:List Value}{v:V n}{a:Option Addr}{c:Nat}{l:List yh}(h:Env n S w cs v a c l) :
  Calls Tryz.prog 13 #[.agg (vt cs a l.length c).toArray] w fun e w'=>e = .returned (.bool (zW n v l))∧zb [] w w':=by
 obtain⟨kd,nm,st,p1,i1,d1,p2,i2,d2,rfl⟩:=h.rep.conv
 obtain⟨W0,Gb⟩:∃ W0,Hid (W0=w.alloc (.cells #[.int .i64 kd,.int .i64 nm,.string st,.slice p1 i1 d1,.slice p2 i2 d2,.slice a l.length c] 28)):=⟨_,qI rfl⟩
 have Ga:Hid (zb [] w W0):=qI (by rw [Gb.o];exact (zb.refl [] w).alloc _)
 have Gd:Hid (W0.heap[w.heap.size]? = some (.cells #[.int .i64 kd,.int .i64 nm,.string st,.slice p1 i1 d1,.slice p2 i2 d2,.slice a l.length c] 28 (0,0))):=qI (by rw [Gb.o];exact zd rfl)
 have HE:=qI (h.kept0 Ga.o)
 have CC:Hid (∀ w2,zb [] W0 w2→Calls Tryz.prog 30 #[.agg #[.int .i64 kd,.int .i64 nm,.string st,.slice p1 i1 d1,.slice p2 i2 d2]] w2 fun e w'=>e = .returned (.int .i64 (yC n v))∧zb [] w2 w'):=qI (fun w2 hk=>refCheck_any (HE.o.rep.kept0 hk) HE.o.small HE.o.deep)
 have CD:Hid (∀ w2,zb [] W0 w2→Calls Tryz.prog 31 #[.agg #[.int .i64 kd,.int .i64 nm,.string st,.slice p1 i1 d1,.slice p2 i2 d2]] w2 fun e w'=>e = .returned (.int .i64 (zy n v))∧zb [] w2 w'):=qI (fun w2 hk=>zam n v (HE.o.rep.kept0 hk) HE.o.small HE.o.deep)
 have HM:Hid (zW n v l=(decide (kd=6) && (decide (yC n v=0) && (decide (zy n v < 12) && (decide (l.length≤16) && l.all yK))))):=qI (by unfold zW;rw [← HE.o.rep.kindE])
 have Gn:Hid (∀ i (hi:i < l.length),∃ g o,a=some ⟨g,o,none⟩∧W0.cell? ⟨g,o + i * 2,none⟩=some (.string l[i].id)∧W0.cell? ⟨g,o + i * 2 + 1,none⟩=some (.string l[i].sig)∧l[i].small):=qI (fun i hi=>by
  obtain⟨g,o,h1,-,-,h2⟩:=HE.o.rows.cells (by omega)
  exact⟨g,o,h1,h2 i hi 0 _ rfl,h2 i hi 1 _ rfl,h.texts _ (List.getElem_mem _)⟩)
 have hdm:zy n v≤100:=Nat.le_trans (kb n v) h.deep
 have hlm:=h.few
 clear h
 generalize zW n v l=M at HM ⊢
 generalize yC n v=K at CC HM
 generalize zy n v=D at CD HM hdm
 obtain⟨m,Gh⟩:∃ m,Hid (m=l.length):=⟨_,qI rfl⟩
 rw [← Gh.o] at Gb Gd HM hlm
 have hdI:(D:Int)≤100:=by omega
 have hmI:(m:Int)≤1000000:=by omega
 have c0:=za (o:=0) Gd.o rfl
 have c1:=za (o:=1) Gd.o rfl
 have c2:=za (o:=2) Gd.o rfl
 have c3:=za (o:=3) Gd.o rfl
 have c4:=za (o:=4) Gd.o rfl
 have c5:=za (o:=5) Gd.o rfl
 show Calls _ _ #[.agg #[.int .i64 kd,.int .i64 nm,.string st,.slice p1 i1 d1,.slice p2 i2 d2,.slice a l.length c]] _ _
 rw [← Gh.o]
 by_cases h6:kd=6
 rotate_left
 ·obtain⟨f1,f2⟩:=yx h6
  rw [decide_eq_false h6] at HM
  clear h6
  go_enter func13,ntmps13
  go_upto_region 1 with fail
  change Code.wp _ _ _ _ (w.alloc (.cells #[.int .i64 kd,.int .i64 nm,.string st,.slice p1 i1 d1,.slice p2 i2 d2,.slice a m c] 28))
  rw [← Gb.o]
  go_wp2_with fail
  go_ret
  exact⟨by rw [HM.o];rfl,Ga.o⟩
 rw [decide_eq_true h6] at HM
 subst h6
 by_cases hc:K=0
 rotate_left
 ·obtain⟨f1,f2⟩:=yx hc
  rw [decide_eq_false hc] at HM
  clear hc
  go_enter func13,ntmps13
  go_upto_region 1 with fail
  change Code.wp _ _ _ _ (w.alloc (.cells #[.int .i64 6,.int .i64 nm,.string st,.slice p1 i1 d1,.slice p2 i2 d2,.slice a m c] 28))
  rw [← Gb.o]
  go_wp2_with (go_at_call 30;refine (CC.o _ (zb.refl _ _)).mono ?_;rintro e w1 ⟨rfl,hk⟩;have y0:=hk.cell c0 (by simp);have y1:=hk.cell c1 (by simp);have y2:=hk.cell c2 (by simp);have y3:=hk.cell c3 (by simp);have y4:=hk.cell c4 (by simp);have y5:=hk.cell c5 (by simp);have HK:=qI hk;clear hk c0 c1 c2 c3 c4 c5)
  go_ret
  exact⟨by rw [HM.o];rfl,Ga.o.then HK.o⟩
 rw [decide_eq_true hc] at HM
 subst hc
 by_cases hd:D < 12
 rotate_left
 ·have hdI2:(11:Int) < D:=by omega
  rw [decide_eq_false hd] at HM
  clear hd
  go_enter func13,ntmps13
  go_upto_region 1 with fail
  change Code.wp _ _ _ _ (w.alloc (.cells #[.int .i64 6,.int .i64 nm,.string st,.slice p1 i1 d1,.slice p2 i2 d2,.slice a m c] 28))
  rw [← Gb.o]
  go_wp2_with first
   | (go_at_call 30;refine (CC.o _ (zb.refl _ _)).mono ?_;rintro e w1 ⟨rfl,hk⟩;have y0:=hk.cell c0 (by simp);have y1:=hk.cell c1 (by simp);have y2:=hk.cell c2 (by simp);have y3:=hk.cell c3 (by simp);have y4:=hk.cell c4 (by simp);have y5:=hk.cell c5 (by simp);have HK:=qI hk;clear hk c0 c1 c2 c3 c4 c5)
   | (go_at_call 31;refine (CD.o _ HK.o).mono ?_;rintro e w2 ⟨rfl,hk⟩;have z5:=hk.cell y5 (by simp);have Gf:=qI (HK.o.then hk);clear hk y0 y1 y2 y3 y4 y5)
  go_ret
  exact⟨by rw [HM.o];rfl,Ga.o.then Gf.o⟩
 have hdI2:(D:Int)≤11:=by omega
 rw [decide_eq_true hd] at HM
 clear hd
 by_cases hm:m≤16
 rotate_left
 ·have hmI2:(16:Int) < m:=by omega
  rw [decide_eq_false hm] at HM
  clear hm
  go_enter func13,ntmps13
  go_upto_region 1 with fail
  change Code.wp _ _ _ _ (w.alloc (.cells #[.int .i64 6,.int .i64 nm,.string st,.slice p1 i1 d1,.slice p2 i2 d2,.slice a m c] 28))
  rw [← Gb.o]
  go_wp2_with first
   | (go_at_call 30;refine (CC.o _ (zb.refl _ _)).mono ?_;rintro e w1 ⟨rfl,hk⟩;have y0:=hk.cell c0 (by simp);have y1:=hk.cell c1 (by simp);have y2:=hk.cell c2 (by simp);have y3:=hk.cell c3 (by simp);have y4:=hk.cell c4 (by simp);have y5:=hk.cell c5 (by simp);have HK:=qI hk;clear hk c0 c1 c2 c3 c4 c5)
   | (go_at_call 31;refine (CD.o _ HK.o).mono ?_;rintro e w2 ⟨rfl,hk⟩;have z5:=hk.cell y5 (by simp);have Gf:=qI (HK.o.then hk);clear hk y0 y1 y2 y3 y4 y5)
  go_ret
  exact⟨by rw [HM.o];rfl,Ga.o.then Gf.o⟩
 ·have hmI2:(m:Int)≤16:=by omega
  rw [decide_eq_true hm] at HM
  have Gk:Hid (M=l.all yK):=qI (by rw [HM.o];rfl)
  clear hm HM
  go_enter func13,ntmps13
  go_upto_region 1 with fail
  change Code.wp _ _ _ _ (w.alloc (.cells #[.int .i64 6,.int .i64 nm,.string st,.slice p1 i1 d1,.slice p2 i2 d2,.slice a m c] 28))
  rw [← Gb.o]
  have Gp:=qI c5
  go_wp2_with first
   | (go_at_call 30;refine (CC.o _ (zb.refl _ _)).mono ?_;rintro e w1 ⟨rfl,hk⟩;have y0:=hk.cell c0 (by simp);have y1:=hk.cell c1 (by simp);have y2:=hk.cell c2 (by simp);have y3:=hk.cell c3 (by simp);have y4:=hk.cell c4 (by simp);have y5:=hk.cell c5 (by simp);have HK:=qI hk;clear hk c0 c1 c2 c3 c4 c5)
   | (go_at_call 31;refine (CD.o _ HK.o).mono ?_;rintro e w2 ⟨rfl,hk⟩;have z5:=hk.cell y5 (by simp);have Gf:=qI (HK.o.then hk);clear hk y0 y1 y2 y3 y4 y5)
  go_loopw [3,4,5] (fun t3 _ _ wr=>∃ k:Nat,t3 = .int .i64 k∧k≤m∧Hid (zb [] W0 wr)∧Hid ((l.take k).all yK=true)) (fun t3 _ _ _=>m - (intOf t3).toNat)
  case atStart=>exact⟨0,rfl,Nat.zero_le _,Gf,qI (by simp)⟩
  case round=>
   obtain⟨k,rfl,hk,Gc,Gl⟩:=hrel
   have x5:=Gc.o.cell Gp.o (by simp)
   clear z5
   rcases Nat.lt_or_ge k m with hlt | hge
   ·have hkl:k < l.length:=by have:=Gh.o;omega
    obtain⟨g,o,rfl,q0,q1,hsm⟩:=Gn.o k hkl
    have e0:=Gc.o.cell q0 (by simp)
    have e1:=Gc.o.cell q1 (by simp)
    clear q0 q1
    have hkI:(k:Int) < m:=by omega
    have Gm:=qI hlt
    have Gi:Hid (yK l[k]=false→M=false):=qI (fun h9=>by rw [Gk.o];exact all_false hkl h9)
    have Gg:Hid (yK l[k]=true→(l.take (k + 1)).all yK=true):=qI (fun h9=>by rw [all_snoc _ _ _ hkl,Gl.o,h9];rfl)
    have HR:Hid (yK l[k]=(kv l[k].id && ((yB l[k].sig).isSome && decide (l[k].sig.size≤1048576)))):=qI rfl
    have CU:Hid (∀ w2,Calls Tryz.prog 32 #[.string l[k].sig] w2 fun e w'=>UnhexR w2 w' e (yB l[k].sig)∧zb [] w2 w'):=qI (fun w2=>Z5 l[k].sig hsm.2 w2)
    have CI:Hid (∀ w2,Calls Tryz.prog 33 #[.string l[k].id] w2 fun e w'=>e = .returned (.bool (kv l[k].id))∧zb [] w2 w'):=qI (fun w2=>refId_any l[k].id hsm.1 w2)
    have hsz:=hsm.2
    generalize yK l[k]=rb at Gi Gg HR
    generalize kv l[k].id=ib at CI HR
    generalize l[k].id=s1 at e0 CI
    generalize yB l[k].sig=us at CU HR
    generalize l[k].sig=s2 at e1 CU HR hsz
    clear hk hlt hkl hsm
    cases us with
    | none=>
     have HF:Hid (M=false):=qI (Gi.o (by rw [HR.o];cases ib <;> rfl))
     go_wp2_with (go_at_call 32;refine (CU.o _).mono ?_;rintro e w3 ⟨hu,hk3⟩;have hu:e = .returned (.tuple #[.slice none 0 0,.bool false]):=hu;subst hu;have Ge:=qI hk3;clear hk3)
     go_ret
     exact⟨by rw [HF.o] <;> rfl,Ga.o.then (Gc.o.then Ge.o)⟩
    | some b=>
     by_cases hz:s2.size≤1048576
     rotate_left
     ·have hzI:(1048576:Int) < s2.size:=by omega
      have HF:Hid (M=false):=qI (Gi.o (by rw [HR.o,decide_eq_false hz];cases ib <;> rfl))
      clear hz hsz
      go_wp2_with (go_at_call 32;refine (CU.o _).mono ?_;rintro e w3 ⟨⟨a3,c3',rfl,-,-⟩,hk3⟩;have e1:=hk3.cell e1 (by simp);have x5:=hk3.cell x5 (by simp);have Ge:=qI hk3;clear hk3)
      go_ret
      exact⟨by rw [HF.o] <;> rfl,Ga.o.then (Gc.o.then Ge.o)⟩
     ·have hzI:(s2.size:Int)≤1048576:=by omega
      rw [decide_eq_true hz] at HR
      clear hz hsz
      cases ib with
      | false=>
       have HF:Hid (M=false):=qI (Gi.o (by rw [HR.o];rfl))
       go_wp2_with first
        | (go_at_call 32;refine (CU.o _).mono ?_;rintro e w3 ⟨⟨a3,c3',rfl,-,-⟩,hk3⟩;have e0:=hk3.cell e0 (by simp);have e1:=hk3.cell e1 (by simp);have x5:=hk3.cell x5 (by simp);have Ge:=qI hk3;clear hk3)
        | (go_at_call 33;refine (CI.o _).mono ?_;rintro e w4 ⟨rfl,hk4⟩;have Gj:=qI (Ge.o.then hk4);clear hk4)
       go_ret
       exact⟨by rw [HF.o] <;> rfl,Ga.o.then (Gc.o.then Gj.o)⟩
      | true=>
       have HT:Hid ((l.take (k + 1)).all yK=true):=qI (Gg.o (by rw [HR.o];rfl))
       go_wp2_with first
        | (go_at_call 32;refine (CU.o _).mono ?_;rintro e w3 ⟨⟨a3,c3',rfl,-,-⟩,hk3⟩;have e0:=hk3.cell e0 (by simp);have e1:=hk3.cell e1 (by simp);have x5:=hk3.cell x5 (by simp);have Ge:=qI hk3;clear hk3)
        | (go_at_call 33;refine (CI.o _).mono ?_;rintro e w4 ⟨rfl,hk4⟩;have Gj:=qI (Ge.o.then hk4);clear hk4)
       case roundEnd=>exact⟨⟨k + 1,by go_num,Gm.o,qI (Gc.o.then Gj.o),HT⟩,by have:=Gm.o;simp [intOf];omega⟩
   ·obtain rfl:k=m:=by omega
    have HT:Hid (M=true):=qI (by have h1:=Gl.o;rw [List.take_of_length_le (by have:=Gh.o;omega)] at h1;rw [Gk.o,h1])
    have hge0:¬ ((k:Int) < k):=by omega
    clear hge hk
    go_wp2_with fail
    go_ret
    exact⟨by rw [HT.o] <;> rfl,Ga.o.then Gc.o⟩
end Go.Proofs.YtibnfbglanpoiaaGreatDoor

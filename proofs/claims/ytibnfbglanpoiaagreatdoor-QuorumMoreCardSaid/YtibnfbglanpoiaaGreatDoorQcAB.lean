/- Parts of one proof, merged: XBN XBO XBR XBS XBB. -/
import Derived.Test.YtibnfbglanpoiaaGreatDoorQcU
import Derived.Test.YtibnfbglanpoiaaGreatDoorQcX
import Derived.Test.YtibnfbglanpoiaaGreatDoorQcAA
import Derived.Deep.RegionLaw
import Derived.Test.YtibnfbglanpoiaaGreatDoorQcZ
set_option linter.all false
set_option maxHeartbeats 12800000
set_option maxRecDepth 10000
set_option linter.unusedVariables false
set_option linter.unusedSimpArgs false
set_option linter.unnecessarySimpa false
namespace Go.Proofs.YtibnfbglanpoiaaGreatDoor
open Go.Proofs.Tryz
open Go.RowKit
attribute [local go_sem] Oper.semAt_some
theorem zab {o:Zw}(h1:yH o.rev) (h2:yH o.oth) (hl:o.oth.length=o.rev.length):∀ k,k≤o.rev.length→((List.range k).map (kS o)).flatten.length=64 * k
 | 0,_=>rfl
 | k + 1,hk=>by
  have h3:=jp h1 h2 hl (b:=k) (by omega)
  rw [vH,List.length_append,zab h1 h2 hl k (by omega),kS,List.length_append]
  omega
theorem JS {w:World}{s:Zw}{a1 a2:Option Addr}{c1 c2 n:Nat}(hn:s.rev.length=n) (hn2:s.oth.length=n) (hr32:yH s.rev) (ho32:yH s.oth) (hs1:Slc w 32 (.slice a1 n c1) n (s.rev.flatten.map bv)) (hs2:Slc w 32 (.slice a2 n c2) n (s.oth.flatten.map bv)) (hmb:yA n=true) :
  Calls Tryz.prog 79 #[.agg #[.slice a1 n c1,.slice a2 n c2]] w fun e w'=>(∃ a c,e = .returned (.tuple #[.slice a (kY s).length c,.int .i64 0])∧zp w' (.slice a (kY s).length c) (kY s))∧zb [] w w':=by
 have hn8:8≤n∧n≤256:=by
  unfold yA at hmb
  simp only [Bool.and_eq_true,decide_eq_true_eq] at hmb
  omega
 obtain⟨g1,o1,rfl,-,hr1⟩:=qD hs1 (by omega)
 obtain⟨g2,o2,rfl,-,hr2⟩:=qD hs2 (by omega)
 obtain⟨W1,Gb⟩:∃ W1,Hid (W1=w.alloc (.cells #[.slice (some ⟨g1,o1,none⟩) n c1,.slice (some ⟨g2,o2,none⟩) n c2] 80)):=⟨_,qI rfl⟩
 have Ga:Hid (zb [] w W1):=qI (by rw [Gb.o];exact (zb.refl _ w).alloc _)
 have Gd:Hid (W1.heap[w.heap.size]? = some (.cells #[.slice (some ⟨g1,o1,none⟩) n c1,.slice (some ⟨g2,o2,none⟩) n c2] 80 (0,0))):=qI (by rw [Gb.o];exact zd rfl)
 have f0:=za (o:=0) Gd.o rfl
 have f1:=za (o:=1) Gd.o rfl
 have CW:=qI (ZW W1 (some ⟨g1,o1,none⟩) (some ⟨g2,o2,none⟩) n c1 c2 hmb)
 have Jc:=qI (hr1.kept Ga.o (by simp))
 have Jd:=qI (hr2.kept Ga.o (by simp))
 have Mu:Hid (∀ k,k≤n→(((List.range k).map (kS s)).flatten).length=64 * k):=qI (fun k hk=>zab hr32 ho32 (by omega) k (by omega))
 have Mv:Hid (kY s=((List.range n).map (kS s)).flatten):=qI (by unfold kY;rw [hn])
 have Mw:=qI hn
 have Mx:=qI hn2
 have H32:=qI (And.intro hr32 ho32)
 have hnI:(n:Int)≤256:=by omega
 have Je:=qI hn8
 clear hs1 hs2 hmb hr1 hr2 hr32 ho32 hn hn2 hn8
 go_enter func79,ntmps79
 go_upto_region 1 with fail
 change Code.wp _ _ _ _ (w.alloc (.cells #[.slice (some ⟨g1,o1,none⟩) n c1,.slice (some ⟨g2,o2,none⟩) n c2] 80))
 rw [← Gb.o]
 go_upto_region 3 with (go_at_call 111;refine CW.o.mono ?_;rintro e ws ⟨rfl,hk2⟩;have Gc:=qI hk2;clear hk2)
 obtain⟨W4,Mh⟩:∃ W4,Hid (W4=ws.alloc (.cells #[.slice none 0 0] 109)):=⟨_,qI rfl⟩
 have Js:Hid (qb ws ws.heap.size W4 []):=qI (by rw [Mh.o];exact sumsNew ws)
 have c1':=(Gc.o.then Js.o.kept).cell f0 (by simp)
 clear f0
 go_upto_region 4 with fail
 rw [← Mh.o]
 generalize hp:ws.heap.size=p at Js
 clear hp
 go_wp2_with fail
 go_loopw [5,6,15] (fun _ _ i wr=>∃ k:Nat,i = .int .i64 k∧k≤n∧qb ws p wr ((List.range k).map (kS s)).flatten) (fun _ _ i _=>n - (intOf i).toNat)
 case atStart=>exact⟨0,rfl,Nat.zero_le _,Js.o⟩
 case round=>
  obtain⟨k,rfl,hk,hsm⟩:=hrel
  have Jn:=qI hsm
  clear hsm c1'
  rcases Nat.lt_or_ge k n with h8 | h8
  ·have h8I:(k:Int) < n:=by omega
   have My:=qI h8I
   have Gf:=qI h8
   have Ge:Hid (zb [] W1 wr):=qI (Gc.o.then Jn.o.kept)
   have hkr:k < s.rev.length:=by rw [Mw.o];exact h8
   have hko:k < s.oth.length:=by rw [Mx.o];exact h8
   have Jf:Hid (wr.rangeAt g1 (o1 + k * 32) (s.rev[k].map bv)):=qI (J5 (Jc.o.kept Ge.o (by simp)) H32.o.1 k hkr)
   have Jg:Hid (wr.rangeAt g2 (o2 + k * 32) (s.oth[k].map bv)):=qI (J5 (Jd.o.kept Ge.o (by simp)) H32.o.2 k hko)
   have Jh:Hid (s.rev[k].length=32):=qI (H32.o.1 _ (List.getElem_mem _))
   have Jt:Hid (s.oth[k].length=32):=qI (H32.o.2 _ (List.getElem_mem _))
   have Ju:Hid (kS s k=s.rev[k] ++ s.oth[k]):=qI (by
    rw [kS,List.getD,List.getElem?_eq_getElem hkr,List.getD,List.getElem?_eq_getElem hko];rfl)
   have Mz:=qI (vH (kS s) k)
   have Ya:=qI (Mu.o k (by omega))
   have f1:=Ge.o.cell f1 (by simp)
   generalize s.rev[k]=x1 at Jf Jh Ju
   generalize s.oth[k]=y1 at Jg Jt Ju
   clear hkr hko h8
   go_upto_region 7 with first
    | (refine zR (by rfl) _ rfl (g:=g1) (of:=o1 + k * 32) Jf.o Jh.o (by rfl) ?_)
    | (refine zu (by rfl) (.tmp 6) (.tmp 19) (by rfl) (g:=wr.heap.size) (l0:=xy zw 0) (zd rfl) (z6 _ _) Jh.o (by rfl) (by rfl) ?_;intro w4 h4 hk4;have Jo:=qI h4;have Gg:Hid (zb [] wr w4):=qI (((zb.refl [] wr).alloc _).trans hk4 (by intro i hi;simp at hi;subst hi;exact .inr (Nat.le_refl _)));clear h4 hk4;simp only [Act.put])
   have Yb:Hid (w4.rangeAt g2 (o2 + k * 32) (y1.map bv)):=qI (fun j v hv=>Gg.o.cell (Jg.o j v hv) (by simp))
   have f1:=Gg.o.cell f1 (by simp)
   have CA:Hid (∀ w3,zb [] w4 w3→Calls Tryz.prog 70 #[.pointer (some ⟨p,0,none⟩),.agg (x1.map bv).toArray,.agg (y1.map bv).toArray] w3 fun e w'=>e = .returned (.tuple #[])∧qb ws p w' ((List.range (k + 1)).map (kS s)).flatten):=qI (fun w3 h=>by
    have h1:=jR (Jn.o.kept0 (Gg.o.then h)) Jh.o Jt.o (by have:=Ya.o;have:=Je.o;omega)
    rw [Mz.o,Ju.o,← List.append_assoc]
    exact h1)
   go_wp2
   refine zZ (n:=33) 7 [zg.is (.pointer (some ⟨p,0,none⟩)),
    zg.is (.agg (x1.map bv).toArray),
    zg.is (.pointer (some ⟨w.heap.size,1,none⟩)),
    zg.is (.slice (some ⟨g2,o2,none⟩) n c2),
    zg.is (.int .i64 k),
    zg.is (.pointer (some ⟨g2,o2 + k * 32,none⟩)),
    zg.is (.agg (y1.map bv).toArray)] (by kernel_rfl) rfl (by kernel_rfl) (fun x=>by simp only [List.map,yM,Act.put,List.setIfInBounds_toArray,List.set_cons_zero,List.set_cons_succ];rfl) ?_ ?_
   ·refine⟨fun x w2 hkw b hd=>?_,fun x w2 hkw b hd=>?_,fun x w2 hkw b hd=>?_,fun x w2 hkw b hd=>?_,fun x w2 hkw b hd=>?_,fun x w2 hkw b hd=>?_,fun x w2 hkw b hd=>?_,trivial⟩
    ·go_wp2_with fail
     exact⟨rfl,zb.refl _ _⟩
    ·change wpList _ _ _ [_] _ _
     refine yz (by rfl) (.tmp 6) (by rfl) (Jo.o.kept0 hkw) Jh.o (by rfl) ?_
     exact⟨rfl,_,rfl,rfl,zb.refl _ _⟩
    ·go_wp2_with fail
     exact⟨rfl,zb.refl _ _⟩
    ·have d2:x 2=_:=hd 2 (by kernel_rfl)
     have y0:=hkw.cell f1 (by simp)
     go_wp2_with fail
     exact⟨rfl,zb.refl _ _⟩
    ·go_wp2_with fail
     exact⟨rfl,zb.refl _ _⟩
    ·have d3:x 3=_:=hd 3 (by kernel_rfl)
     have d4:x 4=_:=hd 4 (by kernel_rfl)
     have hkN:=My.o
     go_wp2_with fail
     exact⟨rfl,zb.refl _ _⟩
    ·have d5:x 5=_:=hd 5 (by kernel_rfl)
     have d5:x 5=_:=hd 5 (by kernel_rfl)
     change wpList _ _ _ [_] _ _
     refine zR (by rfl) _ rfl (g:=g2) (of:=o2 + k * 32) (fun j v hv=>hkw.cell (Yb.o j v hv) (by simp)) Jt.o d5 ?_
     exact⟨rfl,_,rfl,rfl,zb.refl _ _⟩
   ·intro x w17 hkw b17 hd hwin
    have d0:x 0=_:=hd 0 (by decide)
    have d1:x 1=_:=hd 1 (by decide)
    have d6:x 6=_:=hd 6 (by decide)
    have CX:=qI (CA.o w17 hkw)
    clear hd hwin hkw
    change wpList _ _ _ [_] _ _
    go_wp2_with (go_at_call 70;refine CX.o.mono ?_;rintro e w9 ⟨rfl,hsm⟩;have Jv:=qI hsm;clear hsm)
    case roundEnd=>exact⟨⟨k + 1,by go_num,by have:=Gf.o;omega,Jv.o⟩,by have:=Gf.o;simp [intOf];omega⟩
  ·obtain rfl:k=n:=by omega
   obtain⟨av,cv,hb,hrow⟩:=Jn.o.val
   have Ji:=qI hrow
   have e0:=za (o:=0) hb rfl
   rw [← Mv.o] at Ji e0
   clear hb hrow
   go_wp2_with fail
   go_ret2
   exact⟨⟨_,_,rfl,Slc.of_row Ji.o⟩,Ga.o.then (Gc.o.then Jn.o.kept)⟩
attribute [local go_sem] Oper.semAt_some
theorem way_flat {w:List (List UInt8)}(h:yH w) (k:Nat) (hk:k≤w.length):(w.take k).flatten.length=32 * k:=by
 have h1:yH (w.take k):=fun x hx=>h x (List.mem_of_mem_take hx)
 rw [h1.flat,List.length_take]
 omega
theorem JO {w:World}{s:SigS}{a1 a2 a3:Option Addr}{c1 c2 c3 n nh:Nat}(hlf:s.leaf≤1073741824) (hn:s.one.rev.length=n) (hn2:s.one.oth.length=n) (hn3:s.way.length=nh) (hn6:nh≤6) (h31:yH s.one.rev) (h32:yH s.one.oth) (h33:yH s.way)
  (hs1:Slc w 32 (.slice a1 n c1) n (s.one.rev.flatten.map bv)) (hs2:Slc w 32 (.slice a2 n c2) n (s.one.oth.flatten.map bv)) (hs3:Slc w 32 (.slice a3 nh c3) nh (s.way.flatten.map bv)) (hmb:yA n=true) :
  Calls Tryz.prog 41 #[.agg #[.int .i64 s.leaf,.slice a1 n c1,.slice a2 n c2,.slice a3 nh c3]] w fun e w'=>(∃ a c,e = .returned (.tuple #[.slice a (xE s).length c,.int .i64 0])∧zp w' (.slice a (xE s).length c) (xE s))∧zb [] w w':=by
 obtain⟨W1,Gb⟩:∃ W1,Hid (W1=w.alloc (.cells #[.int .i64 s.leaf,.slice a1 n c1,.slice a2 n c2,.slice a3 nh c3] 82)):=⟨_,qI rfl⟩
 have Ga:Hid (zb [] w W1):=qI (by rw [Gb.o];exact (zb.refl _ w).alloc _)
 have Gd:Hid (Q6 W1 w.heap.size s.leaf (.slice a1 n c1) (.slice a2 n c2) (.slice a3 nh c3)):=qI (by rw [Gb.o];exact zd rfl)
 have hn8:n≤256:=by
  unfold yA at hmb
  simp only [Bool.and_eq_true,decide_eq_true_eq] at hmb
  omega
 have CE:=qI (JS hn hn2 h31 h32 (hs1.kept0 Ga.o) (hs2.kept0 Ga.o) hmb)
 have CP:Hid (∀ w2,Calls Tryz.prog 80 #[.int .i64 s.leaf,.int .i64 4] w2 _):=qI (fun w2=>ZO s.leaf 4 w2 (by decide) (by decide) (.inr (by omega)))
 have Jj:=qI (hs3.kept0 Ga.o)
 have Jk:Hid ((kY s.one).length=64 * n):=qI (by rw [Y1 h31 h32 (by omega),hn])
 have Jw:Hid (xE s=qV s.leaf 4 ++ kY s.one ++ s.way.flatten):=qI rfl
 have Mi:Hid ((qV s.leaf 4).length=4):=qI (yN _ _)
 have H33:=qI h33
 have Jx:=qI hn3
 have Je:=qI hn8
 have Yc:=qI (fun k hk=>way_flat h33 k hk)
 have hlI:(s.leaf:Int)≤1073741824:=by omega
 have hnI:(nh:Int)≤6:=by omega
 have hd1:decide ((1073741824:Int) < (s.leaf:Int))=false:=decide_eq_false (by omega)
 have hd2:decide ((6:Int) < (nh:Int))=false:=decide_eq_false (by omega)
 clear hn hn2 hn3 h31 h32 h33 hs1 hs2 hs3 hmb hn8
 generalize kY s.one=co at CE Jk Jw
 generalize qV s.leaf 4=pl at CP Jw Mi
 generalize s.leaf=lf at Gb Gd CP hlI hd1 hlf ⊢
 have f0:=za (o:=0) Gd.o rfl
 have f1:=za (o:=1) Gd.o rfl
 have f2:=za (o:=2) Gd.o rfl
 have f3:=za (o:=3) Gd.o rfl
 go_enter func41,ntmps41
 go_upto_region 1 with fail
 change Code.wp _ _ _ _ (w.alloc (.cells #[.int .i64 lf,.slice a1 n c1,.slice a2 n c2,.slice a3 nh c3] 82))
 rw [← Gb.o]
 go_upto_region 4 with (go_at_call 79;refine CE.o.mono ?_;rintro e w2 ⟨⟨a4,c4,rfl,hb⟩,hk2⟩;have y0:=hk2.cell f0 (by simp);have y3:=hk2.cell f3 (by simp);have Yd:=qI hb;have Gc:=qI hk2;clear hk2 hb f0 f1 f2 f3)
 go_upto_region 5 with (go_at_call 80;refine (CP.o _).mono ?_;rintro e w3 ⟨a5,c5,rfl,ho,hk3⟩;have z3:=hk3.cell y3 (by simp);have Mj:=qI ho;have Ye:=qI (Slc.kept0 Yd.o hk3);have Ys:=qI (Gc.o.then hk3);have Yf:=qI hk3.size;have CPK:=qI hk3;clear hk3 ho y0 y3)
 go_upto_region 6 with (at_builtin;refine zj ji Mj.o Ye.o (xu _) (by have:=Jk.o;have:=Je.o;simp only [maxLen];omega) (by have:=Jk.o;have:=Je.o;omega) Yf.o (by rfl) _ _ rfl rfl rfl ?_;intro v6 w6 hown hk6 _ _;obtain⟨a6,c6,rfl,-,-⟩:=(Slc.of_row hown).form;have Mk:=qI hown;have Gt:Hid (zb [] w2 w6):=qI ((CPK.o).trans hk6 (fun i hi=>.inr (Mj.o.lt i (Option.mem_toList.1 hi)).1));clear hown hk6)
 obtain⟨L,HL⟩:∃ L:Nat→List UInt8,Hid (∀ k,L k=pl ++ co ++ (s.way.take k).flatten):=⟨_,qI (fun k=>rfl)⟩
 have Ml:Hid (∀ k,k≤nh→(L k).length=4 + 64 * n + 32 * k):=qI (fun k hk=>by
  rw [HL.o,List.length_append,List.length_append,Mi.o,Jk.o,Yc.o k (by rw [Jx.o];exact hk)])
 have Mm:Hid (w6.ownsRow w2.heap.size 5 1 (.slice a6 (4 + co.length) c6) (4 + co.length) ((L 0).map bv)):=qI (by
  have h1:=Mk.o
  rw [HL.o]
  simpa using h1)
 have Mn:Hid (4 + co.length=(L 0).length):=qI (by rw [Ml.o 0 (Nat.zero_le _),Jk.o];rfl)
 have z3:=Gt.o.cell (Gc.o.cell (za (o:=3) Gd.o rfl) (by simp)) (by simp)
 generalize 4 + co.length=m0 at Mm Mn ⊢
 clear Mk
 go_wp2_with fail
 clear z3
 go_loopw [6,9,46] (fun t6 _ idx wr=>∃ (k m:Nat) (a:Option Addr) (c:Nat),t6 = .slice a m c∧idx = .int .i64 k∧k≤nh∧m=(L k).length∧wr.ownsRow w2.heap.size 5 1 (.slice a m c) m ((L k).map bv)∧zb [] w2 wr) (fun _ _ idx _=>nh - (intOf idx).toNat)
 case atStart=>exact⟨0,m0,a6,c6,rfl,rfl,Nat.zero_le _,Mn.o,Mm.o,Gt.o⟩
 case round=>
  obtain⟨k,m,av,cv,rfl,rfl,hk,hm,how,hkr⟩:=hrel
  have Gk:=qI hm
  have Mo:=qI how
  have Gj:=qI hkr
  clear hm how hkr
  rcases Nat.lt_or_ge k nh with hlt | hlt
  ·have hltI:(k:Int) < nh:=by omega
   have Gf:=qI hlt
   have hkw:k < s.way.length:=by rw [Jx.o];exact hlt
   obtain⟨g,o,rfl,-,hrow⟩:=qD Jj.o (by omega)
   have Jf:Hid (wr.rangeAt g (o + k * 32) (s.way[k].map bv)):=qI (J5 (hrow.kept (Gc.o.then Gj.o) (by simp)) H33.o k hkw)
   have HX:Hid (s.way[k].length=32):=qI (H33.o _ (List.getElem_mem _))
   have Jy:Hid (L (k + 1)=L k ++ s.way[k]):=qI (by rw [HL.o,HL.o,xQ _ _ hkw,← List.append_assoc])
   have Gu:Hid (m≤100000):=qI (by have h1:=Gk.o;rw [Ml.o k hk] at h1;have:=Je.o;omega)
   generalize s.way[k]=x at Jf HX Jy
   clear hkw hlt hrow
   go_upto_region 9 with first
    | (refine zR (by rfl) _ rfl (g:=g) (of:=o + k * 32) Jf.o HX.o (by rfl) ?_)
    | (refine zu (by rfl) (.tmp 9) (.tmp 49) (by rfl) (g:=wr.heap.size) (l0:=xy zw 0) (zd rfl) (z6 _ _) HX.o (by rfl) (by rfl) ?_;intro w8 h8 hk8;have Jo:=qI h8;have Gh:Hid (zb [] wr w8):=qI (((zb.refl [] wr).alloc _).trans hk8 (by intro i hi;simp at hi;subst hi;exact .inr (Nat.le_refl _)));clear h8 hk8;simp only [Act.put])
   have Yg:Hid (Slc w8 1 (.slice (some ⟨wr.heap.size,0,none⟩) 32 32) 32 (x.map bv)):=qI ⟨by simp [HX.o],.inr (.inr ⟨_,0,32,rfl,Nat.le_refl _,by decide,⟨Jo.o.range,Jo.o.lt⟩⟩)⟩
   have Mp:=qI (zk Mo.o Gh.o (by simp))
   have Yh:Hid (w2.heap.size≤w8.heap.size):=qI (by have:=Gj.o.size;have:=Gh.o.size;omega)
   go_wp2_with (at_builtin;refine zj ji Mp.o Yg.o (xu _) (by have:=Gu.o;simp only [maxLen];omega) (by have:=Gu.o;omega) Yh.o (by rfl) _ _ rfl rfl rfl ?_;intro v9 w9 hown hk9 _ _;obtain⟨a9,c9,rfl,-,-⟩:=(Slc.of_row hown).form;have Yi:=qI hown;have Yj:Hid (zb [] w2 w9):=qI ((Gj.o.then Gh.o).trans hk9 (fun i hi=>.inr (Mp.o.lt i (Option.mem_toList.1 hi)).1));clear hown hk9)
   case roundEnd=>exact⟨⟨k + 1,m + 32,a9,c9,rfl,by go_num,by have:=Gf.o;omega,by rw [Jy.o,List.length_append,← Gk.o,HX.o],by rw [Jy.o,List.map_append];exact Yi.o,Yj.o⟩,by have:=Gf.o;simp [intOf];omega⟩
  ·obtain rfl:k=nh:=by omega
   have Gl:Hid (L k=xE s):=qI (by rw [HL.o,Jw.o,List.take_of_length_le (by rw [Jx.o];exact Nat.le_refl _)])
   go_wp2_with fail
   go_ret2
   have h1:=Slc.of_row Mo.o
   rw [Gk.o,Gl.o] at h1
   refine⟨⟨av,cv,?_,h1⟩,Ga.o.then (Gc.o.then Gj.o)⟩
   rw [Gk.o,Gl.o];rfl
open Go.Maps (Keyed)
attribute [local go_sem] Oper.semAt_some
structure Sgn (w:World) (sg:Nat) (sa la:Option Addr) (sc lc mb n:Nat) (M:Lit→Option Value):Prop where
 box:xS w sg (.slice sa 1 sc) (.slice la 2 lc) (k8 xB) (.map (some mb))
 seed:zp w (.slice sa 1 sc) [113]
 leaves:Slc w 32 (.slice la 2 lc) 2 ((xM 2).map bv)
 used:qq Tryz.prog w 3 mb n M
theorem Sgn.kept0 {w w':World}{sg:Nat}{sa la:Option Addr}{sc lc mb n:Nat}{M:Lit→Option Value}(h:Sgn w sg sa la sc lc mb n M) (k:zb [] w w'):Sgn w' sg sa la sc lc mb n M:=
 ⟨h.box.kept0 k,Slc.kept0 h.seed k,Slc.kept0 h.leaves k,h.used.kept0 k⟩
def setM (M:Lit→Option Value) (i:Nat) (s:ByteArray):Lit→Option Value:=fun z=>if z.sameKey (.int .i64 i) then some (.string s) else M z
def yD (i:Nat) (m:List UInt8):SigS:=⟨i,jd [113] i 8 m,[Kk (kw 0) (kw 1) i]⟩
theorem Zj {w:World}{size:Nat}{v:Value}{n:Nat}{xs:List Value}(h:Slc w size v n xs) (hx:xs≠[]) {g:Nat}(hg:yq v=some g):kind w g≠1:=by
 rcases h.2 with ⟨rfl,_⟩ | ⟨rfl,a,cap,rfl,_⟩ | ⟨g',o,cap,rfl,_,_,hr⟩
 ·simp [yq] at hg
 ·simp [yq] at hg
 ·have hb:=(kV hg).2
  obtain rfl:g'=g:=by simpa [Value.ownBlock] using hb
  obtain⟨x,l,rfl⟩:=List.exists_cons_of_ne_nil hx
  have h0:=hr.cells 0 x rfl
  intro hk
  cases hh:w.heap[g']? with
  | none=>simp [World.cell?,hh] at h0
  | some ob=>cases ob <;> simp [World.cell?,kind,hh] at h0 hk
theorem QI {w:World}{size:Nat}{v:Value}{n:Nat}{xs:List Value}(h:Slc w size v n xs) {g t:Nat}{arr:Array Value}{f:Nat × Nat}(hb:w.heap[g]? = some (.cells arr t f)) (hx:arr.size < n * size):yq v≠some g:=by
 intro hg
 have hxl:arr.size < xs.length:=by rw [h.1];exact hx
 rcases h.2 with ⟨rfl,_⟩ | ⟨rfl,a,cap,rfl,_⟩ | ⟨g',o,cap,rfl,_,_,hr⟩
 ·simp [yq] at hg
 ·simp [yq] at hg
 ·obtain rfl:g'=g:=by simpa [Value.ownBlock] using (kV hg).2
  have h0:=hr.cells arr.size xs[arr.size] (by simp [hxl])
  simp [World.cell?,hb] at h0
theorem leaves_ne:(xM 2).map bv≠[]:=by
 intro h
 have h1:=congrArg List.length h
 rw [List.length_map,xY,xY,List.length_append,List.length_append,show (kw 1).length=32 from qX _ _ _] at h1
 simp at h1
theorem Sgn.mapped {w w':World}{sg:Nat}{sa la:Option Addr}{sc lc mb n n':Nat}{M M':Lit→Option Value}(h:Sgn w sg sa la sc lc mb n M) (k:zb [mb] w w') (hm:qq Tryz.prog w' 3 mb n' M'):Sgn w' sg sa la sc lc mb n' M':=by
 have hk:=h.used.kind
 refine⟨k.heap h.box (fun e=>?_),Slc.kept h.seed k (fun g hg hx=>?_),Slc.kept h.leaves k (fun g hg hx=>?_),hm⟩
 ·rw [List.mem_singleton] at e
  exact yL hk (zH h.box) (by decide) e.symm
 ·rw [List.mem_singleton] at hx
  subst hx
  exact Zj h.seed (by simp) hg hk
 ·rw [List.mem_singleton] at hx
  subst hx
  exact Zj h.leaves leaves_ne hg hk
set_option maxRecDepth 100000 in
theorem signAt_any {w:World}{sg:Nat}{sa la:Option Addr}{sc lc mb n:Nat}{M:Lit→Option Value}(h:Sgn w sg sa la sc lc mb n M) (hn:n≤100) (i:Nat) (hi:i < 2) (hno:M (.int .i64 i)=none) {am:Option Addr}{cm:Nat}{m:List UInt8}(hbm:zp w (.slice am m.length cm) m) (hml:m.length≤1048576) (hks:xz w) :
  Calls Tryz.prog 77 #[.pointer (some ⟨sg,0,none⟩),.int .i64 i,.slice am m.length cm] w fun e w'=>(∃ a1 c1 a2 c2 a3 c3,e = .returned (.tuple #[.agg #[.int .i64 i,.slice a1 8 c1,.slice a2 8 c2,.slice a3 1 c3],.int .i64 0])∧Slc w' 32 (.slice a1 8 c1) 8 ((yD i m).one.rev.flatten.map bv)∧Slc w' 32 (.slice a2 8 c2) 8 ((yD i m).one.oth.flatten.map bv)∧Slc w' 32 (.slice a3 1 c3) 1 ((yD i m).way.flatten.map bv))∧(∃ s,qq Tryz.prog w' 3 mb (n + 1) (setM M i s))∧zb [mb] w w':=by
 obtain⟨W1,Gb⟩:∃ W1,Hid (W1=w.alloc (.cells #[.int .i64 0,.slice none 0 0,.slice none 0 0,.slice none 0 0] 82)):=⟨_,qI rfl⟩
 have Ga:Hid (zb [] w W1):=qI (by rw [Gb.o];exact (zb.refl _ w).alloc _)
 have Jz:Hid (Q6 W1 w.heap.size 0 (.slice none 0 0) (.slice none 0 0) (.slice none 0 0)):=qI (by rw [Gb.o];exact zd rfl)
 obtain⟨gl,ol,rfl,-,-⟩:=qD h.leaves (by decide)
 have HH:=qI (h.kept0 Ga.o)
 have Gz:=qI (hks.kept0 Ga.o)
 have Ma:=qI (Slc.kept0 hbm Ga.o)
 have CM:=qI (QV W1 sg am m.length cm hml)
 have CW:Hid (Calls Tryz.prog 108 #[.slice (some ⟨gl,ol,none⟩) 2 lc,.int .i64 i] W1 fun e w'=>(∃ a c,e = .returned (.tuple #[.slice a 1 c,.int .i64 0])∧Slc w' 32 (.slice a 1 c) 1 ((yD i m).way.flatten.map bv))∧zb [] W1 w'):=qI (by
  have h1:=HH.o.leaves
  rw [show xM 2=kw 0 ++ kw 1 by rw [xY,xY];rfl] at h1
  have h2:=Way_any (qX _ _ _) (qX _ _ _) h1 Gz.o i hi
  rw [show (yD i m).way.flatten=Kk (kw 0) (kw 1) i by simp [yD]]
  exact h2)
 have CS:Hid (∀ w3,zb [] W1 w3→Calls Tryz.prog 109 #[.slice sa 1 sc,.int .i64 i,.int .i64 8,.slice am m.length cm] w3 fun e w'=>(∃ a1 c1 a2 c2,e = .returned (.tuple #[.agg #[.slice a1 8 c1,.slice a2 8 c2],.int .i64 0])∧Slc w' 32 (.slice a1 8 c1) 8 ((yD i m).one.rev.flatten.map bv)∧Slc w' 32 (.slice a2 8 c2) 8 ((yD i m).one.oth.flatten.map bv))∧zb [] w3 w'):=qI (fun w3 hk=>lamSign_any (seed:=[113]) (Slc.kept0 HH.o.seed hk) (by decide) i (by omega) (Slc.kept0 Ma.o hk) hml (Gz.o.kept0 hk))
 have hw:(Lit.int .i64 i).wf=true:=by
  have h1:IntKind.i64.min = -9223372036854775808:=rfl
  have h2:IntKind.i64.max=9223372036854775807:=rfl
  simp only [Lit.wf,h1,h2,Bool.and_eq_true,decide_eq_true_eq]
  omega
 have Yk:Hid (∀ w2,zb [] W1 w2→(Instr.lookup 72 (.map (some mb)) (.int .i64 i) true).run Tryz.prog w2 = .ok (.tuple #[.string ⟨#[]⟩,.bool false]) w2):=qI (fun w2 hk=>by
  have h1:=((HH.o.used.kept0 hk).at.lookup keyInt underlying72 (z:=.string ⟨#[]⟩) (zeroValue9 w2) (Maps.keyOf_int_mk underlying3 hw)).1
  rw [hno] at h1
  exact h1)
 have Mq:Hid (∀ w2,zb [] W1 w2→∃ w',(Instr.mapUpdate 72 (.map (some mb)) (.int .i64 i) (.string (yc m))).run Tryz.prog w2 = .ok () w'∧qq Tryz.prog w' 3 mb (n + 1) (setM M i (yc m))∧zb [mb] w2 w'):=qI (fun w2 hk=>by
  obtain⟨w',h1,h2,h3,-⟩:=(HH.o.used.kept0 hk).update keyInt underlying72 (by simp only [maxLen];omega) (Maps.keyOf_int_mk underlying3 hw) (.string (yc m))
  rw [hno] at h2
  exact⟨w',h1,h2,h3⟩)
 have Mb:Hid (∀ w2,zb [] W1 w2→(convert 53 9 (.slice am m.length cm)).run Tryz.prog w2 = .ok (.string (yc m)) w2):=qI (fun w2 hk=>zp.toStr (Slc.kept0 Ma.o hk))
 have hr0:(k8 xB).root.length=32:=yP _ _
 have c0:=HH.o.box.c0
 have c1:=HH.o.box.c1
 have c2:W1.cell? ⟨sg,2,none⟩=some (.int .i64 8):=HH.o.box.c2
 have cmp:=qI (HH.o.box.cm hr0)
 have Gu:Hid (mb < w.heap.size):=qI h.used.lt
 have Yl:=qI HH.o.used
 have Ym:=qI hml
 clear hks hbm hml hno hw hr0 h
 generalize hmn:m.length=mn at CM CS Mb Ym ⊢
 generalize yc m=ms at Mq Mb
 clear hmn Ma
 go_enter func77,ntmps77
 go_upto_region 1 with fail
 change Code.wp _ _ _ _ (w.alloc (.cells #[.int .i64 0,.slice none 0 0,.slice none 0 0,.slice none 0 0] 82))
 rw [← Gb.o]
 go_upto_region 7 with first
  | (go_at_call 75;refine CM.o.mono ?_;rintro e w' ⟨rfl,rfl⟩)
  | (go_at_call 108;refine CW.o.mono ?_;rintro e w2 ⟨⟨a3,c3,rfl,hs3⟩,hk2⟩;have Jj:=qI hs3;have Gc:=qI hk2;have y0:=hk2.cell c0 (by simp);have y2:=hk2.cell c2 (by simp);have ym:=hk2.cell cmp.o (by simp);clear hs3 hk2 c0 c1 c2)
 have hlk:=Yk.o _ Gc.o
 go_upto_region 10 with fail
 clear hlk
 go_cut [10,13] from 51 to 65 (fun e q wx=>e = .int .i64 0∧∃ (gx:Nat) (a1 a2:Option Addr) (c1 c2:Nat),q = .pointer (some ⟨gx,0,none⟩)∧Hid (wx.heap[gx]? = some (.cells #[.slice a1 8 c1,.slice a2 8 c2] 80 (0,0)))∧Hid (Slc wx 32 (.slice a1 8 c1) 8 ((yD i m).one.rev.flatten.map bv))∧Hid (Slc wx 32 (.slice a2 8 c2) 8 ((yD i m).one.oth.flatten.map bv))∧Hid (zb [] w2 wx))
 case first=>
  have z0:=((zb.refl [] w2).alloc (.cells #[.slice none 0 0,.slice none 0 0] 80)).cell y0 (by simp)
  have z2:=((zb.refl [] w2).alloc (.cells #[.slice none 0 0,.slice none 0 0] 80)).cell y2 (by simp)
  go_region_law (go_simp;go_at_call 109;first | (refine (CS.o _ Gc.o.drew).mono ?_;rintro e w8 ⟨⟨a1,c1,a2,c2,rfl,hs1,hs2⟩,hk8⟩;have Gp:=qI hs1;have Gq:=qI hs2;have Gh:=qI ((zb.refl [] w2).drew.then hk8);clear hs1 hs2 hk8) | (refine (CS.o _ (Gc.o.alloc _).drew).mono ?_;rintro e w8 ⟨⟨a1,c1,a2,c2,rfl,hs1,hs2⟩,hk8⟩;have Gp:=qI hs1;have Gq:=qI hs2;have hbx:=hk8.heap (show ((w2.alloc (.cells #[.slice none 0 0,.slice none 0 0] 80)).drew).heap[w2.heap.size]? = some (.cells #[.slice none 0 0,.slice none 0 0] 80 (0,0)) from zd rfl) (by simp);have b0:=za (o:=0) hbx rfl;have b1:=za (o:=1) hbx rfl;have bz:∀ j,w8.frozen? ⟨w2.heap.size,j,none⟩=false:=fun j=>zh hbx;have Gd:=qI hbx;have Gh:=qI (((zb.refl [] w2).alloc _).drew.then hk8);clear hs1 hs2 hbx hk8))
  all_goals go_wp2_with fail
  all_goals go_meet
  all_goals first
   | exact⟨rfl,_,a1,a2,c1,c2,rfl,qI (zd rfl),qI (Slc.kept0 Gp.o ((zb.refl _ _).alloc _)),qI (Slc.kept0 Gq.o ((zb.refl _ _).alloc _)),qI (Gh.o.alloc _)⟩
   | exact⟨rfl,_,a1,a2,c1,c2,rfl,qI (put2_at Gd.o _ _),qI (Slc.kept Gp.o (vg _ _ _ _) (fun g hg hx=>QI Gp.o Gd.o (by decide) (by rw [List.mem_singleton] at hx;rw [← hx];exact hg))),qI (Slc.kept Gq.o (vg _ _ _ _) (fun g hg hx=>QI Gq.o Gd.o (by decide) (by rw [List.mem_singleton] at hx;rw [← hx];exact hg))),qI (Gh.o.trans (vg _ _ _ _) (by intro b hb;rw [List.mem_singleton] at hb;subst hb;exact .inr (Nat.le_refl _)))⟩
 case rest=>
  obtain⟨rfl,gx,a1,a2,c1,c2,rfl,Gd,Gp,Gq,Mr⟩:=hcut
  have Ja:=qI (Gc.o.then Mr.o)
  have z3:=Ja.o.cell cmp.o (by simp)
  go_upto_region 13 with fail
  refine zZ (n:=81) 7 [zg.is (.pointer (some ⟨sg,0,none⟩)),
   zg.is (.pointer (some ⟨sg,0,none⟩)),
   zg.is (.pointer (some ⟨sg,36,none⟩)),
   zg.is (.map (some mb)),
   zg.is (.int .i64 i),
   zg.is (.slice am mn cm),
   zg.is (.string ms)] (by kernel_rfl) rfl (by kernel_rfl) (fun x=>by simp only [List.map,yM,Act.put,List.setIfInBounds_toArray,List.set_cons_zero,List.set_cons_succ];rfl) ?_ ?_
  ·refine⟨fun x w2 hkw b hd=>?_,fun x w2 hkw b hd=>?_,fun x w2 hkw b hd=>?_,fun x w2 hkw b hd=>?_,fun x w2 hkw b hd=>?_,fun x w2 hkw b hd=>?_,fun x w2 hkw b hd=>?_,trivial⟩
   ·go_wp2_with fail
    exact⟨rfl,zb.refl _ _⟩
   ·have d0:x 0=_:=hd 0 (by kernel_rfl)
    go_wp2_with fail
    exact⟨rfl,zb.refl _ _⟩
   ·have d1:x 1=_:=hd 1 (by kernel_rfl)
    go_wp2_with fail
    exact⟨rfl,zb.refl _ _⟩
   ·have d2:x 2=_:=hd 2 (by kernel_rfl)
    have y0:=hkw.cell z3 (by simp)
    go_wp2_with fail
    exact⟨rfl,zb.refl _ _⟩
   ·go_wp2_with fail
    exact⟨rfl,zb.refl _ _⟩
   ·go_wp2_with fail
    exact⟨rfl,zb.refl _ _⟩
   ·have d5:x 5=_:=hd 5 (by kernel_rfl)
    have cv:=Mb.o w2 (Ja.o.then hkw)
    go_wp2_with fail
    exact⟨rfl,zb.refl _ _⟩
  ·intro x w7 hkw b7 hd hwin
   have d3:x 3=_:=hd 3 (by decide)
   have d4:x 4=_:=hd 4 (by decide)
   have d6:x 6=_:=hd 6 (by decide)
   have Ge:=qI hkw
   clear hd hwin hkw
   change wpList _ _ _ [_] _ _
   obtain⟨w8,hrun,hM8,hk8⟩:=Mq.o w7 (Ja.o.then Ge.o)
   have Yn:=qI hM8
   have Gh:=qI hk8
   clear hM8 hk8
   have hkm:kind w7 mb=1:=(Yl.o.kept0 (Ja.o.then Ge.o)).kind
   have hb7:=Ge.o.heap Gd.o (by simp)
   have hb8:=Gh.o.heap hb7 (fun e=>by rw [List.mem_singleton] at e;exact yL hkm (zH hb7) (by decide) e.symm)
   have Gv:=qI (Gh.o.heap ((Ja.o.then Ge.o).heap Jz.o (by simp)) (by have:=Gu.o;simp;omega))
   have q0:=za (o:=0) hb8 rfl
   have q1:=za (o:=1) hb8 rfl
   have r0:=za (o:=0) Gv.o rfl
   have r1:=za (o:=1) Gv.o rfl
   have r2:=za (o:=2) Gv.o rfl
   have r3:=za (o:=3) Gv.o rfl
   have rz:∀ j,w8.frozen? ⟨w.heap.size,j,none⟩=false:=fun j=>zh Gv.o
   have Yo:=qI hkm
   clear hb7 hb8 hkm z3
   go_wp2_with fail
   change bodyPost _ _ _ _ _ (Zy w8 w.heap.size i (.slice a1 8 c1) (.slice a2 8 c2) (.slice a3 1 c3))
   have Gm:=jr w8 w.heap.size i (.slice a1 8 c1) (.slice a2 8 c2) (.slice a3 1 c3)
   have Gi:=Zl Gv.o i (.slice a1 8 c1) (.slice a2 8 c2) (.slice a3 1 c3)
   generalize Zy w8 w.heap.size i (.slice a1 8 c1) (.slice a2 8 c2) (.slice a3 1 c3)=WF at Gm Gi
   have y0:=za (o:=0) Gi rfl
   have y1:=za (o:=1) Gi rfl
   have y2:=za (o:=2) Gi rfl
   have y3:=za (o:=3) Gi rfl
   have hall:∀ {v:Value}{k:Nat}{xs:List Value},Slc w7 32 v k xs→0 < k→Slc WF 32 v k xs:=fun {v k xs} hs hk=>by
    have hne:xs≠[]:=fun e=>by have:=hs.1;rw [e] at this;simp at this;omega
    have h8:=Slc.kept hs Gh.o (fun g hg hx=>by
     rw [List.mem_singleton] at hx
     subst hx
     exact Zj hs hne hg Yo.o)
    exact Slc.kept h8 Gm (fun g hg hx=>by
     rw [List.mem_singleton] at hx
     subst hx
     exact QI h8 Gv.o (by simp;omega) hg)
   refine bodyPost_ret (v:=.tuple #[.agg #[.int .i64 i,.slice a1 8 c1,.slice a2 8 c2,.slice a3 1 c3],.int .i64 0]) (by simp [results,results77,go_sem,y0,y1,y2,y3]) rfl ?_
   refine⟨⟨a1,c1,a2,c2,a3,c3,rfl,hall (Slc.kept0 Gp.o Ge.o) (by decide),hall (Slc.kept0 Gq.o Ge.o) (by decide),hall (Slc.kept0 Jj.o (Mr.o.then Ge.o)) (by decide)⟩,⟨ms,Yn.o.kept Gm (by have:=Gu.o;simp;omega)⟩,?_⟩
   have hK17:zb [mb] w w8:=((Ga.o.then (Ja.o.then Ge.o)).mono (by simp)).trans' Gh.o
   exact hK17.trans Gm (by intro b hb;rw [List.mem_singleton] at hb;subst hb;exact .inr (Nat.le_refl _))
attribute [local go_sem] Oper.semAt_some
def vh (w:World) (sg:Nat) (sa la:Option Addr) (sc lc mb j:Nat):Prop:=∃ n M,Sgn w sg sa la sc lc mb n M∧n≤j∧(∀ i:Nat,i < 2→(M (.int .i64 i)).isSome=decide (i < j))∧∀ (i:Nat) v,M (.int .i64 i)=some v→∃ s,v = .string s
theorem vh.kept0 {w w':World}{sg:Nat}{sa la:Option Addr}{sc lc mb j:Nat}(h:vh w sg sa la sc lc mb j) (k:zb [] w w'):vh w' sg sa la sc lc mb j:=by
 obtain⟨n,M,h1,h2⟩:=h
 exact⟨n,M,h1.kept0 k,h2⟩
theorem vh.key {w:World}{sg:Nat}{sa la:Option Addr}{sc lc mb j:Nat}(h:vh w sg sa la sc lc mb j):xS w sg (.slice sa 1 sc) (.slice la 2 lc) (k8 xB) (.map (some mb)):=by
 obtain⟨n,M,h1,-⟩:=h
 exact h1.box
theorem Sgn.high {w w1 w2:World}{sg b:Nat}{sa la:Option Addr}{sc lc mb n n':Nat}{M M':Lit→Option Value}(h0:Sgn w sg sa la sc lc mb n M) (h:Sgn w1 sg sa la sc lc mb n' M') (k:zb [b] w1 w2) (hb:w.heap.size≤b):Sgn w2 sg sa la sc lc mb n' M':=
 ⟨k.heap h.box (by have:=lt_of_block h0.box;simp;omega),Slc.kept h.seed k (fun g hg hx=>by have:=Slc.lt h0.seed hg;simp at hx;omega),Slc.kept h.leaves k (fun g hg hx=>by have:=Slc.lt h0.leaves hg;simp at hx;omega),h.used.kept k (by have:=h0.used.lt;simp;omega)⟩
theorem vh.high {w w1 w2:World}{sg b:Nat}{sa la:Option Addr}{sc lc mb j i:Nat}(h0:vh w sg sa la sc lc mb j) (h:vh w1 sg sa la sc lc mb i) (k:zb [b] w1 w2) (hb:w.heap.size≤b):vh w2 sg sa la sc lc mb i:=by
 obtain⟨_,_,h1,-⟩:=h0
 obtain⟨n,M,h2,h3⟩:=h
 exact⟨n,M,h1.high h2 k hb,h3⟩
theorem sameInt (i j:Nat):(Lit.int .i64 (i:Int)).sameKey (.int .i64 j)=decide (i=j):=by
 simp only [Lit.sameKey,true_and]
 by_cases h:i=j
 ·rw [decide_eq_true h,decide_eq_true (by omega)]
 ·rw [decide_eq_false h,decide_eq_false (by omega)]
theorem setM_at (M:Lit→Option Value) (i j:Nat) (s:ByteArray):setM M j s (.int .i64 i)=if i=j then some (.string s) else M (.int .i64 i):=by
 unfold setM
 rw [sameInt]
 by_cases h:i=j <;> simp [h]
set_option maxRecDepth 100000 in
theorem sgrSign_any {w:World}{sg:Nat}{sa la:Option Addr}{sc lc mb j:Nat}(h:vh w sg sa la sc lc mb j) (hj:j < 2) {am:Option Addr}{cm:Nat}{m:List UInt8}(hbm:zp w (.slice am m.length cm) m) (hml:m.length≤1048576) (hks:xz w) :
  Calls Tryz.prog 39 #[.pointer (some ⟨sg,0,none⟩),.slice am m.length cm] w fun e w'=>(∃ a1 c1 a2 c2 a3 c3,e = .returned (.tuple #[.agg #[.int .i64 j,.slice a1 8 c1,.slice a2 8 c2,.slice a3 1 c3],.int .i64 0])∧Slc w' 32 (.slice a1 8 c1) 8 ((yD j m).one.rev.flatten.map bv)∧Slc w' 32 (.slice a2 8 c2) 8 ((yD j m).one.oth.flatten.map bv)∧Slc w' 32 (.slice a3 1 c3) 1 ((yD j m).way.flatten.map bv))∧vh w' sg sa la sc lc mb (j + 1)∧zb [mb] w w':=by
 have H0:=qI h
 obtain⟨n,M,hS,hn,hM,hMs⟩:=h
 obtain⟨W1,Gb⟩:∃ W1,Hid (W1=w.alloc (.cells #[.int .i64 0,.slice none 0 0,.slice none 0 0,.slice none 0 0] 82)):=⟨_,qI rfl⟩
 have Ga:Hid (zb [] w W1):=qI (by rw [Gb.o];exact (zb.refl _ w).alloc _)
 have Jz:Hid (Q6 W1 w.heap.size 0 (.slice none 0 0) (.slice none 0 0) (.slice none 0 0)):=qI (by rw [Gb.o];exact zd rfl)
 have HH:=qI (hS.kept0 Ga.o)
 have CM:=qI (QV W1 sg am m.length cm hml)
 have CU:Hid (∀ i:Nat,i < 2→Calls Tryz.prog 76 #[.pointer (some ⟨sg,0,none⟩),.int .i64 i] W1 fun e w'=>e = .returned (.bool (decide (i < j)))∧W1=w'):=qI (fun i hi=>by
  have h1:=used_any HH.o.box (yP _ _) HH.o.used i (by omega) (hMs i)
  rw [hM i hi] at h1
  exact h1)
 have CA:=qI (signAt_any HH.o (by omega) j hj (by
  have h1:=hM j hj
  cases h2:M (.int .i64 j) with
  | none=>rfl
  | some v=>rw [h2] at h1;simp at h1) (Slc.kept0 hbm Ga.o) hml (hks.kept0 Ga.o))
 have Mc:Hid (∀ w' s,qq Tryz.prog w' 3 mb (n + 1) (setM M j s)→zb [mb] W1 w'→vh w' sg sa la sc lc mb (j + 1)):=qI (fun w' s hm hk=>by
  refine⟨n + 1,setM M j s,HH.o.mapped hk hm,by omega,fun i hi=>?_,fun i v hv=>?_⟩
  ·rw [setM_at]
   by_cases e:i=j
   ·rw [if_pos e];simp [e]
   ·rw [if_neg e,hM i hi]
    by_cases h1:i < j
    ·rw [decide_eq_true h1,decide_eq_true (by omega)]
    ·rw [decide_eq_false h1,decide_eq_false (by omega)]
  ·rw [setM_at] at hv
   split at hv
   ·exact⟨s,(Option.some.inj hv).symm⟩
   ·exact hMs i v hv)
 have Gu:Hid (mb < w.heap.size):=qI hS.used.lt
 have c1:=HH.o.box.c1
 have HJ:=qI hj
 clear hks hbm hml hS hn hM hMs hj
 generalize hmn:m.length=mn at CM CA ⊢
 clear hmn
 go_enter func39,ntmps39
 go_upto_region 1 with fail
 change Code.wp _ _ _ _ (w.alloc (.cells #[.int .i64 0,.slice none 0 0,.slice none 0 0,.slice none 0 0] 82))
 rw [← Gb.o]
 go_wp2_with (go_at_call 75;refine CM.o.mono ?_;rintro e w' ⟨rfl,rfl⟩)
 go_loopw [20] (fun idx wr=>∃ k:Nat,idx = .int .i64 k∧k≤j∧W1=wr) (fun idx _=>2 - (intOf idx).toNat)
 case atStart=>exact⟨0,rfl,Nat.zero_le _,rfl⟩
 case round=>
  obtain⟨k,rfl,hk,rfl⟩:=hrel
  have hk2:k < 2:=by have:=HJ.o;omega
  have hkI:(k:Int) < 2:=by omega
  have CX:=qI (CU.o k hk2)
  rcases Nat.lt_or_ge k j with hlt | hge
  ·rw [decide_eq_true hlt] at CX
   have Gf:=qI hlt
   clear hlt hk hk2
   go_wp2_with (go_at_call 76;refine CX.o.mono ?_;rintro e w' ⟨rfl,rfl⟩)
   case roundEnd=>exact⟨⟨k + 1,by go_num,Gf.o,trivial⟩,by have:=Gf.o;have:=HJ.o;simp [intOf];omega⟩
  ·obtain rfl:k=j:=by omega
   rw [decide_eq_false (by omega)] at CX
   clear hge hk hk2
   go_wp2_with first
    | (go_at_call 76;refine CX.o.mono ?_;rintro e w' ⟨rfl,rfl⟩)
    | (go_at_call 77;refine CA.o.mono ?_;rintro e w2 ⟨⟨a1,d1,a2,d2,a3,d3,rfl,hs1,hs2,hs3⟩,⟨s,hm⟩,hk2⟩;have Gp:=qI hs1;have Gq:=qI hs2;have Jj:=qI hs3;have Yp:=qI hm;have Gc:=qI hk2;have Gw:=qI (hk2.heap Jz.o (by have:=Gu.o;simp;omega));have r0:=za (o:=0) Gw.o rfl;have r1:=za (o:=1) Gw.o rfl;have r2:=za (o:=2) Gw.o rfl;have r3:=za (o:=3) Gw.o rfl;have rz:∀ j,w2.frozen? ⟨w.heap.size,j,none⟩=false:=fun j=>zh Gw.o;clear hs1 hs2 hs3 hm hk2)
   change bodyPost _ _ _ _ _ (Zy w2 w.heap.size k (.slice a1 8 d1) (.slice a2 8 d2) (.slice a3 1 d3))
   have Gm:=jr w2 w.heap.size k (.slice a1 8 d1) (.slice a2 8 d2) (.slice a3 1 d3)
   have Gi:=Zl Gw.o k (.slice a1 8 d1) (.slice a2 8 d2) (.slice a3 1 d3)
   generalize Zy w2 w.heap.size k (.slice a1 8 d1) (.slice a2 8 d2) (.slice a3 1 d3)=WF at Gm Gi
   have y0:=za (o:=0) Gi rfl
   have y1:=za (o:=1) Gi rfl
   have y2:=za (o:=2) Gi rfl
   have y3:=za (o:=3) Gi rfl
   have hall:∀ {v:Value}{q:Nat}{xs:List Value},Slc w2 32 v q xs→0 < q→Slc WF 32 v q xs:=fun {v q xs} hs hq=>Slc.kept hs Gm (fun g hg hx=>by
    rw [List.mem_singleton] at hx
    subst hx
    exact QI hs Gw.o (by simp;omega) hg)
   refine bodyPost_ret (v:=.tuple #[.agg #[.int .i64 k,.slice a1 8 d1,.slice a2 8 d2,.slice a3 1 d3],.int .i64 0]) (by simp [results,results39,go_sem,y0,y1,y2,y3]) rfl ?_
   exact⟨⟨a1,d1,a2,d2,a3,d3,rfl,hall Gp.o (by decide),hall Gq.o (by decide),hall Jj.o (by decide)⟩,H0.o.high (Mc.o _ _ Yp.o Gc.o) Gm (Nat.le_refl _),((Ga.o.mono (by simp)).trans' Gc.o).trans Gm (by intro b hb;rw [List.mem_singleton] at hb;subst hb;exact .inr (Nat.le_refl _))⟩
def noId:ByteArray:=⟨#[]⟩
def yV (n:Nat) (v:V n) (l:List yh) (id:ByteArray) (k:zP) (r:yh):Bool:=decide (r.id=id) && jc n v l r k
def yT (n:Nat) (v:V n) (l:List yh) (keys:List xT) (id:ByteArray):Bool:=
 match jV keys id with
 | none=>false
 | some r=>!(decide (id=noId)) && (decide (yu r.key=id) && l.any (yV n v l id r.key))
theorem Kz (id:ByteArray):id.toList.isEmpty=true↔id=noId:=by
 rw [ByteArray.toList_eq,List.isEmpty_iff]
 constructor
 ·intro h
  cases id with
  | mk d=>
   unfold noId
   congr 1
   exact Array.toList_inj.1 (by simpa using h)
 ·rintro rfl
  rfl
theorem any_take {α:Type}(p:α→Bool) (l:List α) (k:Nat) (hk:k < l.length) (h:(l.take k).any p=false):(l.take (k + 1)).any p=p l[k]:=by
 rw [List.take_succ_eq_append_getElem hk,List.any_append,h]
 simp
theorem J0 {n:Nat}{S:Nat→Prop}{w:World}{cs:List Value}{v:V n}{a:Option Addr}{c:Nat}{l:List yh}(h:Env n S w cs v a c l) (ht:ql w) (hks:xz w) (id:ByteArray) {a2:Option Addr}{c2:Nat}{keys:List xT}(hk:qo w (.slice a2 keys.length c2) keys) :
  Calls Tryz.prog 29 #[.agg (vt cs a l.length c).toArray,.string id,.slice a2 keys.length c2] w fun e w'=>e = .returned (.bool (yT n v l keys id))∧zb [] w w':=by
 obtain⟨kd,nm,st,p1,i1,d1,p2,i2,d2,rfl⟩:=h.rep.conv
 obtain⟨W1,Gb⟩:∃ W1,Hid (W1=w.alloc (.cells #[.int .i64 kd,.int .i64 nm,.string st,.slice p1 i1 d1,.slice p2 i2 d2,.slice a l.length c] 28)):=⟨_,qI rfl⟩
 have Ga:Hid (zb [] w W1):=qI (by rw [Gb.o];exact (zb.refl _ w).alloc _)
 have Gd:Hid (W1.heap[w.heap.size]? = some (.cells #[.int .i64 kd,.int .i64 nm,.string st,.slice p1 i1 d1,.slice p2 i2 d2,.slice a l.length c] 28 (0,0))):=qI (by rw [Gb.o];exact zd rfl)
 have HE:=qI (h.kept0 Ga.o)
 have HT:=qI (ht.kept0 Ga.o)
 have Gz:=qI (hks.kept0 Ga.o)
 have CF:=qI (find_any (hk.kept0 Ga.o) id)
 have HS:Hid (yT n v l keys id=match jV keys id with | none=>false | some r=>!(decide (id=noId)) && (decide (yu r.key=id) && l.any (yV n v l id r.key))):=qI rfl
 have Jp:Hid (∀ r,jV keys id=some r→r.fine):=qI (fun r hr=>hk.fine r (List.mem_of_find?_eq_some hr))
 have hmI:(l.length:Int)≤1000000:=by have:=h.few;omega
 clear h ht hks hk
 generalize yT n v l keys id=res at HS ⊢
 generalize jV keys id=fo at CF HS Jp
 generalize keys.length=kn at CF ⊢
 show Calls _ _ #[.agg #[.int .i64 kd,.int .i64 nm,.string st,.slice p1 i1 d1,.slice p2 i2 d2,.slice a l.length c],.string id,.slice a2 kn c2] _ _
 cases fo with
 | none=>
  have HR:Hid (res=false):=qI HS.o
  have CF:Hid (Calls Tryz.prog 61 #[.slice a2 kn c2,.string id] W1 fun e w'=>e = .returned (.tuple #[.agg (yi yg),.bool false])∧zb [] W1 w'):=CF
  clear HS Jp
  have Gl:Hid (yg.root.length=32):=qI (by rfl)
  go_enter func29,ntmps29
  go_upto_region 1 with fail
  change Code.wp _ _ _ _ (w.alloc (.cells #[.int .i64 kd,.int .i64 nm,.string st,.slice p1 i1 d1,.slice p2 i2 d2,.slice a l.length c] 28))
  rw [← Gb.o]
  go_wp2_with first
   | (go_at_call 61;refine CF.o.mono ?_;rintro e w2 ⟨rfl,hk2⟩;have Gc:=qI hk2;clear hk2)
   | (refine yS (by rfl) (.tmp 7) (.tmp 15) (by rfl) (g:=w2.heap.size) (k:=yg) (k0:=yg) (zd rfl) Gl.o Gl.o (by rfl) (by rfl) ?_;intro w4 h4 hk4;have Gg:Hid (zb [] w2 w4):=qI (((zb.refl [] w2).alloc _).trans hk4 (by intro i hi;simp at hi;subst hi;exact .inr (Nat.le_refl _)));clear h4 hk4;simp only [Act.put])
  go_ret
  exact⟨by rw [HR.o];rfl,Ga.o.then (Gc.o.then Gg.o)⟩
 | some r=>
  have HS:Hid (res=(!(decide (id=noId)) && (decide (yu r.key=id) && l.any (yV n v l id r.key)))):=qI HS.o
  have HF:=qI (Jp.o r rfl)
  have Gr:=qI HF.o.1
  have Gl:Hid (yg.root.length=32):=qI (by rfl)
  have CI:Hid (∀ w2,zb [] W1 w2→Calls Tryz.prog 43 #[.agg (yi r.key)] w2 fun e w'=>e = .returned (.string (yu r.key))∧zb [] w2 w'):=qI (fun w2 hk=>YU r.key HF.o.2 HF.o.1 w2 (HT.o.kept0 hk) (Gz.o.kept0 hk))
  have CH:Hid (∀ w2,zb [] W1 w2→∀ (i:Nat) (hi:i < l.length),Calls Tryz.prog 62 #[.agg #[.int .i64 kd,.int .i64 nm,.string st,.slice p1 i1 d1,.slice p2 i2 d2,.slice a l.length c],.int .i64 i,.agg (yi r.key)] w2 fun e w'=>e = .returned (.bool (jc n v l l[i] r.key))∧zb [] w2 w'):=qI (fun w2 hk i hi=>by
   have h1:=holds_any (HE.o.kept0 hk) (HT.o.kept0 hk) (Gz.o.kept0 hk) r.key HF.o.2 HF.o.1 i hi
   exact h1)
  have Md:Hid (∀ i (hi:i < l.length),∃ g o,a=some ⟨g,o,none⟩∧W1.cell? ⟨g,o + i * 2,none⟩=some (.string l[i].id)∧W1.cell? ⟨g,o + i * 2 + 1,none⟩=some (.string l[i].sig)):=qI (fun i hi=>by
   obtain⟨g,o,h1,-,-,h2⟩:=HE.o.rows.cells (by omega)
   exact⟨g,o,h1,h2 i hi 0 _ rfl,h2 i hi 1 _ rfl⟩)
  have HP:Hid (∀ i (hi:i < l.length),yV n v l id r.key l[i]=(decide (l[i].id=id) && jc n v l l[i] r.key)):=qI (fun i hi=>rfl)
  have Jq:Hid (∀ k (hk:k < l.length),(l.take k).any (yV n v l id r.key)=false→(l.take (k + 1)).any (yV n v l id r.key)=yV n v l id r.key l[k]):=qI (fun k hk h=>any_take _ l k hk h)
  have Jr:Hid (∀ k,(l.take k).any (yV n v l id r.key)=true→l.any (yV n v l id r.key)=true):=qI (fun k h=>by
   rw [List.any_eq_true] at h ⊢
   obtain⟨x,h1,h2⟩:=h
   exact⟨x,List.mem_of_mem_take h1,h2⟩)
  have CF:Hid (Calls Tryz.prog 61 #[.slice a2 kn c2,.string id] W1 fun e w'=>e = .returned (.tuple #[.agg (yi r.key),.bool true])∧zb [] W1 w'):=CF
  clear HE Jp HT Gz HF
  generalize r.key=key at HS Gr CI CH HP Jq Jr CF
  generalize hkid:yu key=kid at HS CI
  clear hkid
  by_cases hz:id=noId
  ·have f1:id.toList.isEmpty=true:=(Kz id).2 hz
   have HR:Hid (res=false):=qI (by rw [HS.o,decide_eq_true hz];rfl)
   clear hz HS CI CH Md HP Jq Jr
   go_enter func29,ntmps29
   go_upto_region 1 with fail
   change Code.wp _ _ _ _ (w.alloc (.cells #[.int .i64 kd,.int .i64 nm,.string st,.slice p1 i1 d1,.slice p2 i2 d2,.slice a l.length c] 28))
   rw [← Gb.o]
   go_upto_region 2 with first
    | (go_at_call 61;refine CF.o.mono ?_;rintro e w2 ⟨rfl,hk2⟩;have Gc:=qI hk2;clear hk2)
    | (refine yS (by rfl) (.tmp 7) (.tmp 15) (by rfl) (g:=w2.heap.size) (k:=key) (k0:=yg) (zd rfl) Gl.o Gr.o (by rfl) (by rfl) ?_;intro w4 h4 hk4;have Jl:=qI h4;have Gg:Hid (zb [] W1 w4):=qI (Gc.o.then (((zb.refl [] w2).alloc _).trans hk4 (by intro i hi;simp at hi;subst hi;exact .inr (Nat.le_refl _))));clear h4 hk4;simp only [Act.put])
   go_wp2_with fail
   go_ret
   exact⟨by rw [HR.o];rfl,Ga.o.then Gg.o⟩
  have f1:id.toList.isEmpty=false:=by
   cases hq:id.toList.isEmpty with
   | false=>rfl
   | true=>exact absurd ((Kz id).1 hq) hz
  rw [decide_eq_false hz] at HS
  clear hz
  by_cases hid:kid=id
  rotate_left
  ·obtain⟨g1,g2⟩:=kF hid
   have HR:Hid (res=false):=qI (by rw [HS.o,decide_eq_false hid];rfl)
   clear hid HS CH Md HP Jq Jr
   go_enter func29,ntmps29
   go_upto_region 1 with fail
   change Code.wp _ _ _ _ (w.alloc (.cells #[.int .i64 kd,.int .i64 nm,.string st,.slice p1 i1 d1,.slice p2 i2 d2,.slice a l.length c] 28))
   rw [← Gb.o]
   go_upto_region 2 with first
    | (go_at_call 61;refine CF.o.mono ?_;rintro e w2 ⟨rfl,hk2⟩;have Gc:=qI hk2;clear hk2)
    | (refine yS (by rfl) (.tmp 7) (.tmp 15) (by rfl) (g:=w2.heap.size) (k:=key) (k0:=yg) (zd rfl) Gl.o Gr.o (by rfl) (by rfl) ?_;intro w4 h4 hk4;have Jl:=qI h4;have Gg:Hid (zb [] W1 w4):=qI (Gc.o.then (((zb.refl [] w2).alloc _).trans hk4 (by intro i hi;simp at hi;subst hi;exact .inr (Nat.le_refl _))));clear h4 hk4;simp only [Act.put])
   go_wp2_with first
    | (refine xD (by rfl) (.tmp 7) (by rfl) Jl.o Gr.o (by rfl) ?_)
    | (go_at_call 43;refine (CI.o _ Gg.o).mono ?_;rintro e w5 ⟨rfl,hk5⟩;have Me:=qI hk5;clear hk5)
   go_ret
   exact⟨by rw [HR.o];rfl,Ga.o.then (Gg.o.then Me.o)⟩
  obtain⟨g1,g2⟩:=k9 hid
  rw [decide_eq_true hid] at HS
  have HS:Hid (res=l.any (yV n v l id key)):=qI HS.o
  clear hid
  go_enter func29,ntmps29
  go_upto_region 1 with fail
  change Code.wp _ _ _ _ (w.alloc (.cells #[.int .i64 kd,.int .i64 nm,.string st,.slice p1 i1 d1,.slice p2 i2 d2,.slice a l.length c] 28))
  rw [← Gb.o]
  go_upto_region 2 with first
   | (go_at_call 61;refine CF.o.mono ?_;rintro e w2 ⟨rfl,hk2⟩;have Gc:=qI hk2;clear hk2)
   | (refine yS (by rfl) (.tmp 7) (.tmp 15) (by rfl) (g:=w2.heap.size) (k:=key) (k0:=yg) (zd rfl) Gl.o Gr.o (by rfl) (by rfl) ?_;intro w4 h4 hk4;have Jl:=qI h4;have Gg:Hid (zb [] W1 w4):=qI (Gc.o.then (((zb.refl [] w2).alloc _).trans hk4 (by intro i hi;simp at hi;subst hi;exact .inr (Nat.le_refl _))));clear h4 hk4;simp only [Act.put])
  go_upto_region 4 with first
   | (refine xD (by rfl) (.tmp 7) (by rfl) Jl.o Gr.o (by rfl) ?_)
   | (go_at_call 43;refine (CI.o _ Gg.o).mono ?_;rintro e w5 ⟨rfl,hk5⟩;have Me:=qI hk5;have Gx:=qI (Gg.o.then hk5);clear hk5)
  have Jm:=Gx.o.heap Gd.o (by simp)
  have c5:=za (o:=5) Jm rfl
  clear Jm g1 g2 f1
  have Yq:=qI (Jl.o.kept0 Me.o)
  generalize hm:l.length=m at hmI c5 Gb ⊢
  go_wp2_with fail
  clear c5
  have Gk:=qI hm
  clear hm
  go_loopw [9,10,32] (fun _ _ idx wr=>∃ k:Nat,idx = .int .i64 k∧k≤m∧(l.take k).any (yV n v l id key)=false∧zb [] w5 wr) (fun _ _ idx _=>m - (intOf idx).toNat)
  case atStart=>exact⟨0,rfl,Nat.zero_le _,rfl,zb.refl _ _⟩
  case round=>
   obtain⟨k,rfl,hk,hno,hkr⟩:=hrel
   have Ms:=qI hno
   have Gj:=qI hkr
   clear hno hkr
   rcases Nat.lt_or_ge k m with hlt | hlt
   ·have hltI:(k:Int) < m:=by omega
    have hkl:k < l.length:=by rw [Gk.o];exact hlt
    obtain⟨g,o,rfl,y0,y1⟩:=Md.o k hkl
    have Ge:Hid (zb [] W1 wr):=qI (Gx.o.then Gj.o)
    have z0:=Ge.o.cell y0 (by simp)
    have z1:=Ge.o.cell y1 (by simp)
    have Gn:=qI (HP.o k hkl)
    have Jb:=qI (Jq.o k hkl Ms.o)
    have CHK:Hid (∀ w2,zb [] W1 w2→_):=qI (fun w2 (hk:zb [] W1 w2)=>CH.o w2 hk k hkl)
    clear y0 y1
    generalize hlk:l[k]=row at z0 z1 Gn Jb CHK
    clear hlk
    have Gf:=qI hlt
    clear hlt
    clear hkl
    go_upto_region 7 with fail
    obtain⟨W6,Mf⟩:∃ W6,Hid (W6=wr.alloc (.cells #[.string row.id,.string row.sig] 40)):=⟨_,qI rfl⟩
    have Gt:Hid (zb [] wr W6):=qI (by rw [Mf.o];exact (zb.refl _ wr).alloc _)
    have Yr:Hid (W6.heap[wr.heap.size]? = some (.cells #[.string row.id,.string row.sig] 40 (0,0))):=qI (by rw [Mf.o];exact zd rfl)
    rw [← Mf.o]
    have x0:=za (o:=0) Yr.o rfl
    have Gy:Hid (zb [] W1 W6):=qI (Ge.o.then Gt.o)
    clear z0 z1
    by_cases hid:row.id=id
    ·obtain⟨f1,f2⟩:=k9 hid
     rw [decide_eq_true hid] at Gn
     have Gn:Hid (yV n v l id key row=jc n v l row key):=qI Gn.o
     clear hid
     have Gs:=Gy.o.heap Gd.o (by simp)
     rw [Gk.o] at Gs
     have b0:=za (o:=0) Gs rfl
     have b1:=za (o:=1) Gs rfl
     have b2:=za (o:=2) Gs rfl
     have b3:=za (o:=3) Gs rfl
     have b4:=za (o:=4) Gs rfl
     have b5:=za (o:=5) Gs rfl
     clear Gs
     have Mt:Hid (yt W6 w2.heap.size key):=qI ((Yq.o.kept0 Gj.o).kept0 Gt.o)
     have CHW:=CHK.o W6 Gy.o
     rw [Gk.o] at CHW
     have CHW:=qI CHW
     clear CHK
     generalize hb:jc n v l row key=b at CHW Gn
     rw [Gn.o] at Jb
     clear Gn hb
     cases b with
     | true=>
      go_wp2_with first
       | (refine xD (by rfl) (.tmp 7) (by rfl) Mt.o Gr.o (by rfl) ?_)
       | (go_at_call 62;refine CHW.o.mono ?_;rintro e w7 ⟨rfl,hk7⟩;have Mg:=qI hk7;clear hk7)
      go_ret
      exact⟨by rw [HS.o,Jr.o (k + 1) Jb.o];rfl,Ga.o.then (Gy.o.then Mg.o)⟩
     | false=>
      go_wp2_with first
       | (refine xD (by rfl) (.tmp 7) (by rfl) Mt.o Gr.o (by rfl) ?_)
       | (go_at_call 62;refine CHW.o.mono ?_;rintro e w7 ⟨rfl,hk7⟩;have Mg:=qI hk7;clear hk7)
      case roundEnd=>exact⟨⟨k + 1,by go_num,by have:=Gf.o;omega,Jb.o,(Gj.o.then Gt.o).then Mg.o⟩,by have:=Gf.o;simp [intOf];omega⟩
    ·obtain⟨f1,f2⟩:=kF hid
     rw [decide_eq_false hid] at Gn
     rw [Gn.o] at Jb
     clear hid CHK
     go_wp2_with fail
     case roundEnd=>exact⟨⟨k + 1,by go_num,by have:=Gf.o;omega,Jb.o,Gj.o.then Gt.o⟩,by have:=Gf.o;simp [intOf];omega⟩
   ·obtain rfl:k=m:=by omega
    go_wp2_with fail
    go_ret
    refine⟨?_,Ga.o.then (Gx.o.then Gj.o)⟩
    have h1:=Ms.o
    rw [List.take_of_length_le (by rw [Gk.o];exact Nat.le_refl _)] at h1
    rw [HS.o,h1];rfl
end Go.Proofs.YtibnfbglanpoiaaGreatDoor

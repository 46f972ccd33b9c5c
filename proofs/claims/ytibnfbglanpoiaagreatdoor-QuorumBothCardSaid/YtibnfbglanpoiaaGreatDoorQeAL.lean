/- Parts of one proof, merged: XBO. -/
import Derived.Test.YtibnfbglanpoiaaGreatDoorQeAK
import Derived.Test.YtibnfbglanpoiaaGreatDoorQeAC
set_option linter.all false
set_option maxHeartbeats 12800000
set_option maxRecDepth 10000
namespace Go.Proofs.YtibnfbglanpoiaaGreatDoor
open Go.Proofs.Tryz
open Go.RowKit
attribute [local go_sem] Oper.semAt_some
theorem way_flat {w:List (List UInt8)}(h:yC w) (k:Nat) (hk:k≤w.length):(w.take k).flatten.length=32*k:=by
 have h1:yC (w.take k):=fun x hx=>h x (List.mem_of_mem_take hx)
 rw [h1.flat,List.length_take]
 omega
theorem zac {w:World}{s:SigS}{a1 a2 a3:Option Addr}{c1 c2 c3 n nh:Nat}(hlf:s.leaf≤1073741824) (hn:s.one.rev.length=n) (hn2:s.one.oth.length=n) (hn3:s.way.length=nh) (hn6:nh≤6) (h31:yC s.one.rev) (h32:yC s.one.oth) (h33:yC s.way)
  (hs1:Slc w 32 (.slice a1 n c1) n (s.one.rev.flatten.map bv)) (hs2:Slc w 32 (.slice a2 n c2) n (s.one.oth.flatten.map bv)) (hs3:Slc w 32 (.slice a3 nh c3) nh (s.way.flatten.map bv)) (hmb:yv n=true) :
  Calls Tryz.prog 41 #[.agg #[.int .i64 s.leaf,.slice a1 n c1,.slice a2 n c2,.slice a3 nh c3]] w fun e w'=>(∃ a c,e = .returned (.tuple #[.slice a (xO s).length c,.int .i64 0])∧zp w' (.slice a (xO s).length c) (xO s))∧zb [] w w':=by
 obtain⟨W1,Gc⟩:∃ W1,Hid (W1=w.alloc (.cells #[.int .i64 s.leaf,.slice a1 n c1,.slice a2 n c2,.slice a3 nh c3] 82)):=⟨_,qI rfl⟩
 have Gd:Hid (zb [] w W1):=qI (kA1 Gc.o)
 have Ga:Hid (vu W1 w.heap.size s.leaf (.slice a1 n c1) (.slice a2 n c2) (.slice a3 nh c3)):=qI (by rw [Gc.o];exact zd rfl)
 have hn8:n≤256:=by
  unfold yv at hmb
  simp only [Bool.and_eq_true,decide_eq_true_eq] at hmb
  omega
 have CE:=qI (lamEncode_any hn hn2 h31 h32 (hs1.kept0 Gd.o) (hs2.kept0 Gd.o) hmb)
 have CP:Hid (∀ w2,Calls Tryz.prog 80 #[.int .i64 s.leaf,.int .i64 4] w2 _):=qI (fun w2=>YS s.leaf 4 w2 Wo Wo (.inr Ws))
 have Jb:=qI (hs3.kept0 Gd.o)
 have Gb:Hid ((jn s.one).length=64*n):=qI (by rw [QA h31 h32 Ws,hn])
 have Gh:Hid (xO s=qP s.leaf 4++jn s.one++s.way.flatten):=qI rfl
 have Gm:Hid ((qP s.leaf 4).length=4):=qI (xu _ _)
 have H33:=qI h33
 have Gi:=qI hn3
 have Gj:=qI hn8
 have Jc:=qI (fun k hk=>way_flat h33 k hk)
 have hlI:(s.leaf:Int)≤1073741824:=Ws
 have hnI:(nh:Int)≤6:=Ws
 have hd1:decide ((1073741824:Int)<(s.leaf:Int))=false:=decide_eq_false Ws
 have hd2:decide ((6:Int)<(nh:Int))=false:=decide_eq_false Ws
 clear hn hn2 hn3 h31 h32 h33 hs1 hs2 hs3 hmb hn8
 generalize jn s.one=co at CE Gb Gh
 generalize qP s.leaf 4=pl at CP Gh Gm
 generalize s.leaf=lf at Gc Ga CP hlI hd1 hlf ⊢
 have f0:=za (o:=0) Ga.o rfl
 have f1:=za (o:=1) Ga.o rfl
 have f2:=za (o:=2) Ga.o rfl
 have f3:=za (o:=3) Ga.o rfl
 go_enter func41,ntmps41
 go_upto_region 1 with fail
 refine yq Gc.o ?_
 go_upto_region 4 with (go_at_call 79;refine CE.o.mono ?_;rintro e w2 ⟨⟨a4,c4,rfl,hb⟩,hk2⟩;have y0:=hk2.cell f0 Wz;have y3:=hk2.cell f3 Wz;have Jd:=qI hb;have Ge:=qI hk2;clear hk2 hb f0 f1 f2 f3)
 go_upto_region 5 with (go_at_call 80;refine (CP.o _).mono ?_;rintro e w3 ⟨a5,c5,rfl,ho,hk3⟩;have z3:=hk3.cell y3 Wz;have Gn:=qI ho;have Je:=qI (Slc.kept0 Jd.o hk3);have Jk:=qI (Ge.o.then hk3);have Jf:=qI hk3.size;have CPK:=qI hk3;clear hk3 ho y0 y3)
 go_upto_region 6 with (at_builtin;refine zk xV Gn.o Je.o (yL _) (by have:=Gb.o;have:=Gj.o;simp only [maxLen];omega) (by have:=Gb.o;have:=Gj.o;omega) Jf.o Wk _ _ rfl rfl rfl ?_;intro v6 w6 hown hk6 _ _;obtain⟨a6,c6,rfl,-,-⟩:=(Slc.of_row hown).form;have Gp:=qI hown;have Gq:Hid (zb [] w2 w6):=qI ((CPK.o).trans hk6 (fun i hi=>.inr (Gn.o.lt i (Option.mem_toList.1 hi)).1));clear hown hk6)
 obtain⟨L,HL⟩:∃ L:Nat→List UInt8,Hid (∀ k,L k=pl++co++(s.way.take k).flatten):=⟨_,qI (fun k=>rfl)⟩
 have Gr:Hid (∀ k,k≤nh→(L k).length=4+64*n+32*k):=qI (fun k hk=>by
  rw [HL.o,List.length_append,List.length_append,Gm.o,Gb.o,Jc.o k (by rw [Gi.o];exact hk)])
 have Gs:Hid (w6.ownsRow w2.heap.size 5 1 (.slice a6 (4+co.length) c6) (4+co.length) ((L 0).map bv)):=qI (by
  have h1:=Gp.o
  rw [HL.o]
  simpa using h1)
 have Gt:Hid (4+co.length=(L 0).length):=qI (by rw [Gr.o 0 (Nat.zero_le _),Gb.o];rfl)
 have z3:=Gq.o.cell (Ge.o.cell (za (o:=3) Ga.o rfl) Wz) Wz
 generalize 4+co.length=m0 at Gs Gt ⊢
 clear Gp
 go_wp2_with fail
 clear z3
 go_loopw [6,9,46] (fun t6 _ idx wr=>∃ (k m:Nat) (a:Option Addr) (c:Nat),t6 = .slice a m c∧idx = .int .i64 k∧k≤nh∧m=(L k).length∧wr.ownsRow w2.heap.size 5 1 (.slice a m c) m ((L k).map bv)∧zb [] w2 wr) (fun _ _ idx _=>nh-(intOf idx).toNat)
 case atStart=>exact⟨0,m0,a6,c6,rfl,rfl,Nat.zero_le _,Gt.o,Gs.o,Gq.o⟩
 case round=>
  obtain⟨k,m,av,cv,rfl,rfl,hk,hm,how,hkr⟩:=hrel
  have Gf:=qI hm
  have Gu:=qI how
  have Gg:=qI hkr
  clear hm how hkr
  rcases Nat.lt_or_ge k nh with hlt | hlt
  ·have hltI:(k:Int)<nh:=by omega
   have Gv:=qI hlt
   have hkw:k<s.way.length:=by rw [Gi.o];exact hlt
   obtain⟨g,o,rfl,-,hrow⟩:=xy Jb.o Ws
   have Gw:Hid (wr.rangeAt g (o+k*32) (s.way[k].map bv)):=qI (Qk (hrow.kept (Ge.o.then Gg.o) Wz) H33.o k hkw)
   have HX:Hid (s.way[k].length=32):=qI (H33.o _ (List.getElem_mem _))
   have Gk:Hid (L (k+1)=L k++s.way[k]):=qI (by rw [HL.o,HL.o,ql _ _ hkw,← List.append_assoc])
   have Gx:Hid (m≤100000):=qI (by have h1:=Gf.o;rw [Gr.o k hk] at h1;have:=Gj.o;omega)
   generalize s.way[k]=x at Gw HX Gk
   clear hkw hlt hrow
   go_upto_region 9 with first
    | (refine zS Wk _ rfl (g:=g) (of:=o+k*32) Gw.o HX.o Wk ?_)
    | (refine zq Wk (.tmp 9) (.tmp 49) Wk (g:=wr.heap.size) (l0:=xe zu 0) (zd rfl) (zJ _ _) HX.o Wk Wk ?_;intro w8 h8 hk8;have Gy:=qI h8;have Gl:Hid (zb [] wr w8):=qI (((zb.refl [] wr).alloc _).trans hk8 (by intro i hi;simp at hi;subst hi;exact .inr (Nat.le_refl _)));clear h8 hk8;simp only [Act.put])
   have Jg:Hid (Slc w8 1 (.slice (some ⟨wr.heap.size,0,none⟩) 32 32) 32 (x.map bv)):=qI ⟨by simp [HX.o],.inr (.inr ⟨_,0,32,rfl,Nat.le_refl _,Wo,⟨Gy.o.range,Gy.o.lt⟩⟩)⟩
   have Gz:=qI (zo Gu.o Gl.o Wz)
   have Jh:Hid (w2.heap.size≤w8.heap.size):=qI (by have:=Gg.o.size;have:=Gl.o.size;omega)
   go_wp2_with (at_builtin;refine zk xV Gz.o Jg.o (yL _) (by have:=Gx.o;simp only [maxLen];omega) (by have:=Gx.o;omega) Jh.o Wk _ _ rfl rfl rfl ?_;intro v9 w9 hown hk9 _ _;obtain⟨a9,c9,rfl,-,-⟩:=(Slc.of_row hown).form;have Ji:=qI hown;have Jj:Hid (zb [] w2 w9):=qI ((Gg.o.then Gl.o).trans hk9 (fun i hi=>.inr (Gz.o.lt i (Option.mem_toList.1 hi)).1));clear hown hk9)
   case roundEnd=>exact⟨⟨k+1,m+32,a9,c9,rfl,by go_num,by have:=Gv.o;omega,by rw [Gk.o,List.length_append,← Gf.o,HX.o],by rw [Gk.o,List.map_append];exact Ji.o,Jj.o⟩,by have:=Gv.o;simp [intOf];omega⟩
  ·obtain rfl:k=nh:=by omega
   have Ja:Hid (L k=xO s):=qI (by rw [HL.o,Gh.o,List.take_of_length_le (by rw [Gi.o];exact Nat.le_refl _)])
   go_wp2_with fail
   go_ret2
   have h1:=Slc.of_row Gu.o
   rw [Gf.o,Ja.o] at h1
   refine⟨⟨av,cv,?_,h1⟩,Gd.o.then (Ge.o.then Gg.o)⟩
   rw [Gf.o,Ja.o];rfl
end Go.Proofs.YtibnfbglanpoiaaGreatDoor

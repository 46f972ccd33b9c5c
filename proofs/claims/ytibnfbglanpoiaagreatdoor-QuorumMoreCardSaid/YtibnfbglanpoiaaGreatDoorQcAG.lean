/- Parts of one proof, merged: XGM XGN XGD XGE. -/
import Derived.Test.YtibnfbglanpoiaaGreatDoorQcAF
import Derived.Test.YtibnfbglanpoiaaGreatDoorQcJ
import Derived.Test.YtibnfbglanpoiaaGreatDoorQcL
import Derived.Test.YtibnfbglanpoiaaGreatDoorQcB
import Derived.Test.YtibnfbglanpoiaaGreatDoorQcP
import Derived.Test.YtibnfbglanpoiaaGreatDoorQcC
import Derived.Test.YtibnfbglanpoiaaGreatDoorQcK
import Derived.Test.YtibnfbglanpoiaaGreatDoorQcG
import Derived.Deep.DeepCutAuto
import Derived.Deep.CutBlock
import Derived.Test.YtibnfbglanpoiaaGreatDoorQcU
set_option linter.all false
set_option maxHeartbeats 12800000
set_option maxRecDepth 10000
set_option linter.unusedVariables false
set_option linter.unusedSimpArgs false
set_option linter.unnecessarySimpa false
namespace Go.Proofs.YtibnfbglanpoiaaGreatDoor
open Go.Proofs.Tryz
open Go.RowKit
def bQ (n j:Nat):List UInt8:=(List.range 8).map (fun i=>if 8 - j≤i then putB n 8 i else 0)
theorem downL_len (n j:Nat):(bQ n j).length=8:=by simp [bQ]
theorem downL_all (n:Nat):bQ n 8=qV n 8:=rfl
theorem downL_set (n j m:Nat) (hj:j < 8) (hm:m=n / 256 ^ j):((bQ n j).map bv).set (7 - j) (.int .u8 ((m:Int) % 256))=(bQ n (j + 1)).map bv:=by
 have hb:Value.int .u8 ((m:Int) % 256)=bv (putB n 8 (7 - j)):=by
  rw [putB,YI,hm,show 8 - 1 - (7 - j)=j by omega,Nat.pow_mul]
 rw [hb]
 apply List.ext_getElem
 ·simp [bQ]
 ·intro i h1 h2
  rw [List.getElem_set]
  by_cases e:7 - j=i
  ·rw [if_pos e]
   simp only [bQ,List.getElem_map,List.getElem_range]
   rw [if_pos (by omega),e]
  ·rw [if_neg e]
   simp only [bQ,List.getElem_map,List.getElem_range]
   congr 1
   have hi:i < 8:=by simpa [bQ] using h2
   by_cases h:8 - j≤i
   ·rw [if_pos h,if_pos (by omega)]
   ·rw [if_neg h,if_neg (by omega)]
set_option maxRecDepth 100000 in
theorem refPut8_any (n:Nat) (w:World) (hn:n < 9223372036854775808):Calls Tryz.prog 86 #[.int .i64 n,.int .i64 8] w fun e w'=>∃ a c,e = .returned (.tuple #[.slice a 8 c,.bool true])∧w'.ownsRow w.heap.size 5 1 (.slice a 8 c) 8 ((qV n 8).map bv)∧zb [] w w':=by
 have hmk:(Instr.makeSlice 53 (.int .i64 8) (.int .i64 8)).run Tryz.prog w = .ok (.slice (some ⟨w.heap.size,0,none⟩) 8 8) (w.alloc (.cells (madeCells #[.int .u8 0] 8) 5)):=YZ w 8 (by decide)
 have hnn:=qI hn
 have Jz:Hid (∀ W1,W1=w.alloc (.cells (madeCells #[.int .u8 0] 8) 5)→W1.ownsRow w.heap.size 5 1 (.slice (some ⟨w.heap.size,0,none⟩) 8 8) 8 ((bQ n 0).map bv)∧zb [] w W1):=qI (by
  rintro W1 rfl
  exact⟨YS w w.heap.size 8 (by decide) (Nat.le_refl _),(zb.refl _ w).alloc _⟩)
 clear hn
 go_enter func86,ntmps86
 go_upto_region 4 with fail
 obtain⟨W1,Jk⟩:∃ W1,Hid (W1=w.alloc (.cells (madeCells #[.int .u8 0] 8) 5)):=⟨_,qI rfl⟩
 obtain⟨ho1,hk1⟩:=Jz.o W1 Jk.o
 have Gp:=qI ho1
 have Gq:=qI hk1
 clear ho1 hk1 hmk
 rw [← Jk.o]
 go_wp2_with fail
 go_loopw [0,7] (fun nv i wr=>∃ j m:Nat,j≤8∧i = .int .i64 (7 - (j:Int))∧nv = .int .i64 m∧Hid (m=n / 256 ^ j)∧wr.ownsRow w.heap.size 5 1 (.slice (some ⟨w.heap.size,0,none⟩) 8 8) 8 ((bQ n j).map bv)∧zb [] w wr) (fun _ i _=>(intOf i + 1).toNat)
 case atStart=>exact⟨0,n,Nat.zero_le _,rfl,rfl,qI (by simp),Gp.o,Gq.o⟩
 case round=>
  obtain⟨j,m,hj,rfl,rfl,HM,hown,hkr⟩:=hrel
  have Hown:=qI hown
  have HK:=qI hkr
  have hmI:(m:Int)≤9223372036854775807:=by have:=HM.o;have:=Nat.div_le_self n (256 ^ j);have:=hnn.o;omega
  by_cases h4:j < 8
  ·have hi:(0:Int)≤7 - j:=by omega
   have hi2:(7:Int) - j < 8:=by omega
   have hc:=hown.cellAt (7 - j) (by omega)
   have hf:=hown.frozenAt (7 - j)
   obtain⟨cv,hcv⟩:∃ cv,wr.cell? ⟨w.heap.size,7 - j,none⟩=some cv:=⟨_,hc.trans (List.getElem?_eq_getElem (by rw [List.length_map,downL_len];omega))⟩
   have ht:((7:Int) - j).toNat=7 - j:=by omega
   have HT:=qI ht
   have H8:=qI h4
   clear hc hown hkr ht
   go_wp2_with fail
   have hst:=(Hown.o.stored (7 - j) (.int .u8 ((m:Int) % 256))).1
   rw [downL_set n j m h4 HM.o] at hst
   refine⟨⟨j + 1,m / 256,by omega,?_,?_,qI ?_,hst,HK.o.setCell (by simp) _⟩,by simp [intOf];omega⟩
   ·rw [show (7:Int) - ((j + 1:Nat):Int)=7 - j - 1 by omega]
   ·rw [Int.natCast_ediv];rfl
   ·rw [HM.o,Nat.div_div_eq_div_mul,Nat.pow_succ]
  ·obtain rfl:j=8:=by omega
   have h0:m=0:=by rw [HM.o];exact Nat.div_eq_of_lt (by have:=hnn.o;omega)
   clear hown hkr
   subst h0
   go_wp2_with fail
   go_ret2
   have h9:=Hown.o
   rw [downL_all] at h9
   exact⟨_,_,rfl,h9,HK.o⟩
theorem ones_bv (l:List UInt8):∀ u,u ∈ l.map bv→u.oneCell'=true:=xu l
set_option maxRecDepth 100000 in
theorem refSha_any (w:World) (a:Option Addr) (c:Nat) (l:List UInt8) (hb:zp w (.slice a l.length c) l) (hl:l.length≤100000000) :
  Calls Tryz.prog 47 #[.slice a l.length c] w fun e w'=>e = .returned (.agg ((zY l).map bv).toArray)∧zb [] w w':=by
 obtain⟨W0,Gr⟩:∃ W0,Hid (W0=w.alloc (.cells (((xy zw 0).map bv).toArray) 45)):=⟨_,qI rfl⟩
 have Jl:Hid (zb [] w W0):=qI (by rw [Gr.o];exact (zb.refl _ w).alloc _)
 have Ma:Hid (yf W0 w.heap.size (xy zw 0)):=qI (by rw [Gr.o];exact zd rfl)
 have Mb:Hid (W0.heap.size=w.heap.size + 1):=qI (by rw [Gr.o];simp)
 obtain⟨n,HN⟩:∃ n,Hid (n=l.length):=⟨_,qI rfl⟩
 have HB:=qI (Slc.kept0 hb Jl.o)
 rw [← HN.o] at HB hl ⊢
 have hnI:(n:Int)≤100000000:=by omega
 have Ge:=qI hl
 clear hb hl
 go_enter func47,ntmps47
 go_upto_region 1 with fail
 change Code.wp _ _ _ _ (w.alloc (.cells (((xy zw 0).map bv).toArray) 45))
 rw [← Gr.o]
 have Jm:=qI (jT (t:=5) (size:=1) (base:=W0.heap.size) W0 rfl (Nat.le_refl _))
 have Gd:Hid (zb [] W0 (W0.alloc (.cells #[] 5))):=qI ((zb.refl _ _).alloc _)
 go_upto_region 2 with first
  | (have Jn:=GO1;at_builtin;refine zj bj (v:=.slice a1 n c1) (n:=n) (zk Gp.o ((zb.refl [] w1).alloc _) (by simp)) (jl w1 (.int .u8 128) _ _ rfl) (by simp [Value.oneCell']) (by simp only [maxLen];have:=Ge.o;omega) (by have:=Ge.o;omega) (by have:=Gq.o.size;simp;omega) rfl _ _ rfl rfl rfl ?_;intro v2 w2 hown hk2 _ hb2;obtain⟨a2,c2,rfl,-,-⟩:=(Slc.of_row hown).form;have Mc:=qI hown;have Md:Hid (zb [] W0 w2):=qI ((Gq.o.then ((zb.refl [] w1).alloc _)).trans hk2 (fun i hi=>.inr (Gp.o.lt i (Option.mem_toList.1 hi)).1));clear hown hk2 hb2)
  | (at_builtin;refine zj bj (v:=.slice (some ⟨W0.heap.size,0,none⟩) 0 0) (n:=0) Jm.o (Slc.kept0 HB.o Gd.o) (ones_bv l) (by simp only [maxLen];have:=Ge.o;omega) (by have:=Ge.o;omega) (by simp) rfl _ _ rfl rfl rfl ?_;intro v1 w1 hown hk1 _ hb1;rw [Nat.zero_add,List.nil_append] at hown;obtain⟨a1,c1,rfl,-,-⟩:=(Slc.of_row hown).form;have Gp:=qI hown;have Gq:Hid (zb [] W0 w1):=qI (Gd.o.trans hk1 (by intro i hi;simp [Value.ownBlock] at hi;subst hi;exact .inr (Nat.le_refl _)));have GO1:=True.intro;clear hown hk1 hb1)
 obtain⟨P,HP⟩:∃ P,Hid (P=(119 - n % 64) % 64):=⟨_,qI rfl⟩
 clear Jm Gd
 go_loopw [3] (fun out wr=>∃ (k:Nat) (a3:Option Addr) (c3:Nat),Hid (k≤P)∧out = .slice a3 (n + 1 + k) c3∧wr.ownsRow W0.heap.size 5 1 (.slice a3 (n + 1 + k) c3) (n + 1 + k) ((l ++ 128 :: List.replicate k 0).map bv)∧zb [] W0 wr) (fun out _=>P + n + 1 - Z1 out)
 case atStart=>
  refine⟨0,a2,c2,qI (Nat.zero_le _),rfl,?_,Md.o⟩
  have h9:=Mc.o
  have e9:List.map bv (l ++ 128 :: List.replicate 0 0)=List.map bv l ++ [Value.int .u8 128]:=by rw [List.map_append];rfl
  rw [e9]
  exact h9
 case round=>
  obtain⟨k,a3,c3,Gv,rfl,hrow,hkr⟩:=hrel
  have Ga:=qI hrow
  have Gb:=qI hkr
  clear hrow hkr
  obtain⟨m,HM⟩:∃ m,Hid (m=n + 1 + k):=⟨_,qI rfl⟩
  rw [← HM.o] at Ga ⊢
  have hmI:(m:Int)≤200000000:=by have:=HM.o;have:=Gv.o;have:=HP.o;have:=Ge.o;omega
  by_cases h56:m % 64=56
  rotate_left
  ·have ft:((m:Int) % 64 != 56)=true:=(yx (by omega)).2
   have Jo:Hid (k < P):=qI (by have:=HM.o;have:=Gv.o;have:=HP.o;omega)
   clear h56
   go_wp2_with (at_builtin;refine zj bj (v:=.slice a3 m c3) (n:=m) (zk Ga.o ((zb.refl [] wr).alloc _) (by simp)) (jl wr (.int .u8 0) _ _ rfl) (by simp [Value.oneCell']) (by simp only [maxLen];omega) (by omega) (by have:=Gb.o.size;simp;omega) rfl _ _ rfl rfl rfl ?_;intro v5 w5 hown hk5 _ hb5;obtain⟨a5,c5,rfl,-,-⟩:=(Slc.of_row hown).form;have Gf:=qI hown;have Gc:=qI hk5;clear hown hk5 hb5)
   case roundEnd=>
    refine⟨⟨k + 1,a5,c5,qI Jo.o,by rw [HM.o];rfl,?_,(Gb.o.then ((zb.refl [] wr).alloc _)).trans Gc.o (fun i hi=>.inr (Ga.o.lt i (Option.mem_toList.1 hi)).1)⟩,by have:=HM.o;have:=Jo.o;simp only [Z1];omega⟩
    have h9:=Gf.o
    rw [show n + 1 + (k + 1)=m + 1 by have:=HM.o;omega]
    have e9:List.map bv (l ++ 128 :: List.replicate (k + 1) 0)=List.map bv (l ++ 128 :: List.replicate k 0) ++ [Value.int .u8 0]:=by rw [List.replicate_succ'];simp [bv]
    rw [e9]
    exact h9
  ·have ft:((m:Int) % 64 != 56)=false:=(xt (by omega)).2
   have Gd:Hid (k=P):=qI (by have:=HM.o;have:=Gv.o;have:=HP.o;omega)
   clear h56
   clear ft
   have CP:Hid (∀ w1,Calls Tryz.prog 86 #[.int .i64 (8 * (n:Int)),.int .i64 8] w1 fun e w'=>∃ a c,e = .returned (.tuple #[.slice a 8 c,.bool true])∧w'.ownsRow w1.heap.size 5 1 (.slice a 8 c) 8 ((qV (8 * n) 8).map bv)∧zb [] w1 w'):=qI (fun w1=>by
    have h9:=refPut8_any (8 * n) w1 (by have:=Ge.o;omega)
    rw [show ((8 * n:Nat):Int)=8 * (n:Int) by omega] at h9
    exact h9)
   have ft:((m:Int) % 64 != 56)=false:=(xt (by have:=HM.o;have:=Gd.o;have:=HP.o;omega)).2
   go_upto_region 5 with (go_at_call 86;refine (CP.o _).mono ?_;rintro e w5 ⟨pa,pc,rfl,hp,hk5⟩;have Me:=qI hp;have Gc:=qI hk5;clear hp hk5)
   go_upto_region 6 with (at_builtin;refine zj bj (v:=.slice a3 m c3) (n:=m) (zk Ga.o Gc.o (by simp)) (Slc.of_row Me.o) (ones_bv _) (by simp only [maxLen];omega) (by omega) (by have:=Gb.o.size;have:=Gc.o.size;omega) rfl _ _ rfl rfl rfl ?_;intro v6 w6 hown hk6 _ hb6;obtain⟨a9,c9,rfl,-,-⟩:=(Slc.of_row hown).form;have Gw:=qI hown;have Mf:Hid (zb [] W0 w6):=qI ((Gb.o.then Gc.o).trans hk6 (fun i hi=>.inr (Ga.o.lt i (Option.mem_toList.1 hi)).1));clear hown hk6 hb6)
   obtain⟨T,Gs⟩:∃ T,Hid (T=m + 8):=⟨_,qI rfl⟩
   obtain⟨AL,Gx⟩:∃ AL,Hid (AL=l ++ YV (l.length % 64) l.length):=⟨_,qI rfl⟩
   have Gg:Hid (AL.length=T):=qI (by rw [Gx.o,Gs.o,HM.o,Gd.o,HP.o,HN.o];simp [YV,yN];omega)
   have Jp:Hid (zp w6 (.slice a9 T c9) AL):=qI (by
    have h9:=Slc.of_row Gw.o
    unfold zp
    rw [Gg.o,Gs.o]
    have e9:List.map bv AL=List.map bv (l ++ 128 :: List.replicate k 0) ++ List.map bv (qV (8 * n) 8):=by
     rw [Gx.o,Gd.o,HP.o,HN.o,← List.map_append]
     unfold YV
     simp
    rw [e9]
    exact h9)
   have Gt:Hid (T % 64=0∧T≤200000000):=qI (by have:=Gs.o;have:=HM.o;have:=Gd.o;have:=HP.o;have:=Ge.o;omega)
   rw [← Gs.o]
   clear ft hmI
   obtain⟨sb,Gj⟩:∃ sb,Hid (sb=sb):=⟨0,qI rfl⟩
   clear Gj sb
   go_upto_region 7 with first
    | (go_at_call 87;refine (first_any _).mono ?_;rintro e w7 ⟨rfl,hk7⟩;have Gi:=qI (Mf.o.then hk7);have Gk:=qI hk7;clear hk7)
    | (refine qH (by rfl) (.tmp 6) (.tmp 32) (by rfl) (g:=w7.heap.size) (s:=S8.mk 0 0 0 0 0 0 0 0) (r:=zw) (zd rfl) (by rfl) (by rfl) ?_;intro w8 h8 hk8;have Jq:=qI h8;have Gl:Hid (zb [] w7 w8):=qI (((zb.refl [] w7).alloc _).trans hk8 (by intro i hi;simp at hi;subst hi;exact .inr (Nat.le_refl _)));clear h8 hk8;simp only [Act.put])
   obtain⟨sb,Gj⟩:∃ sb,Hid (sb=w7.heap.size):=⟨_,qI rfl⟩
   have Gh:Hid (w.heap.size < sb):=qI (by have:=Gi.o.size;have:=Mb.o;rw [Gj.o];omega)
   rw [← Gj.o] at Jq ⊢
   have Mg:=qI (Jp.o.kept0 (Gk.o.then Gl.o))
   have Jr:=qI (Gi.o.then Gl.o)
   have hTI:(T:Int)≤200000000:=by have:=Gt.o.2;omega
   go_wp2_with fail
   go_loopw [7] (fun i wr=>∃ (m:Nat) (S:S8),i = .int .i64 m∧Hid (m % 64=0∧m≤T)∧W8 wr sb S∧Hid (ky S (AL.drop m)=ky zw AL)∧zb [sb] w8 wr) (fun i _=>T - (intOf i).toNat)
   case atStart=>exact⟨0,zw,rfl,qI ⟨rfl,Nat.zero_le _⟩,Jq.o,qI rfl,zb.refl _ _⟩
   case round=>
    obtain⟨m,S,rfl,Gy,hw,Gm,hkr⟩:=hrel
    have HW:=qI hw
    have Gu:=qI hkr
    clear hw hkr
    by_cases hlt:m < T
    ·have hltI:(m:Int) < T:=by omega
     have Js:Hid ((m:Int) < 200000000):=qI (by have:=Gt.o.2;omega)
     have hml:m + 64≤AL.length:=by have:=Gy.o;have:=Gt.o;rw [Gg.o];omega
     obtain⟨a8,c8,hs,hby,hvb⟩:=(show zp w8 (.slice a9 T c9) AL from Mg.o).mid bj m (m + 64) (by omega) hml
     rw [show m + 64 - m=64 by omega] at hs hby hvb
     have Gz:Hid (∀ W,(Instr.slice 53 (.slice a9 T c9) (some (.int .i64 m)) (some (.int .i64 (m + 64))) none).run Tryz.prog W = .ok (.slice a8 64 c8) W):=qI hs
     obtain⟨blk,Ja⟩:∃ blk,Hid (blk=(AL.drop m).take 64):=⟨_,qI rfl⟩
     rw [← Ja.o] at hby
     have Mh:Hid (blk.length=64):=qI (by rw [Ja.o,List.length_take,List.length_drop];omega)
     have Mi:Hid (∀ g,yq (.slice a8 64 c8)=some g→g≠sb):=qI (fun g hg e=>by
      have h1:=Slc.lt (show zp w6 (.slice a9 T c9) AL from Jp.o) (hvb g hg)
      have h2:=Gk.o.size
      have h3:=Gj.o
      omega)
     have Mj:=qI (Slc.kept hby Gu.o (fun g hg hx=>by simp at hx;exact Mi.o g hg hx))
     have Mk:Hid (ky (xH S blk) (AL.drop (m + 64))=ky zw AL):=qI (by
      rw [← Gm.o,vN S (AL.drop m) (by rw [List.length_drop];omega),← Ja.o,List.drop_drop])
     have Jt:=qI hlt
     clear hs hby hvb hlt hml
     go_upto_region 10 with fail
     refine zZ (n:=63) 7 [zg.is (.agg (S.list.map wv).toArray),
      zg.is (.slice a9 T c9),
      zg.is (.int .i64 m),
      zg.is (.int .i64 m),
      zg.is (.int .i64 (m + 64)),
      zg.is (.slice a8 64 c8),
      zg.is (.agg ((xH S blk).list.map wv).toArray)] (by kernel_rfl) rfl (by kernel_rfl) (fun x=>by simp only [List.map,yM,Act.put,List.setIfInBounds_toArray,List.set_cons_zero,List.set_cons_succ];rfl) ?_ ?_
     ·refine⟨fun x w2 hkw b hd=>?_,fun x w2 hkw b hd=>?_,fun x w2 hkw b hd=>?_,fun x w2 hkw b hd=>?_,fun x w2 hkw b hd=>?_,fun x w2 hkw b hd=>?_,fun x w2 hkw b hd=>?_,trivial⟩
      ·refine bf (by rfl) (.tmp 6) (by rfl) (W8.kept HW.o hkw (by simp)) (by rfl) ?_
       go_wp2_with fail
       exact⟨rfl,zb.refl _ _⟩
      ·go_wp2_with fail
       exact⟨rfl,zb.refl _ _⟩
      ·go_wp2_with fail
       exact⟨rfl,zb.refl _ _⟩
      ·go_wp2_with fail
       exact⟨rfl,zb.refl _ _⟩
      ·have d3:x 3=_:=hd 3 (by kernel_rfl)
       have hmI:=Js.o
       go_wp2_with fail
       exact⟨rfl,zb.refl _ _⟩
      ·have d1:x 1=_:=hd 1 (by kernel_rfl)
       have d2:x 2=_:=hd 2 (by kernel_rfl)
       have d4:x 4=_:=hd 4 (by kernel_rfl)
       have hsl:=Gz.o w2
       go_wp2_with fail
       exact⟨rfl,zb.refl _ _⟩
      ·have d0:x 0=_:=hd 0 (by kernel_rfl)
       have d5:x 5=_:=hd 5 (by kernel_rfl)
       have CX:=refBlock_any w2 S a8 c8 blk Mh.o (Mj.o.kept0 hkw)
       go_wp2_with (go_at_call 88;refine CX.mono ?_;rintro e w5 ⟨rfl,hk5⟩;have Gc:=qI hk5;clear hk5)
       exact⟨rfl,Gc.o⟩
     ·intro x w9 hkw b9 hd hwin
      have d6:x 6=_:=hd 6 (by decide)
      have Ml:=qI hkw
      have Mm:=qI (W8.kept HW.o hkw (by simp))
      clear hd hwin hkw
      change wpList _ _ _ [_] _ _
      have hmI:=Js.o
      go_wp2_with (refine qH (by rfl) (.tmp 6) (.tmp 45) (by rfl) (g:=sb) (s:=S) (r:=xH S blk) Mm.o (by rfl) d6 ?_;intro w11 h11 hk11;have Jb:=qI h11;have Jc:=qI hk11;clear h11 hk11;simp only [Act.put])
      case roundEnd=>
       exact⟨⟨m + 64,xH S blk,by go_num,qI (by have:=Gy.o;have:=Gt.o;have:=Jt.o;omega),Jb.o,Mk,(Gu.o.then Ml.o).trans' Jc.o⟩,by have:=Jt.o;simp [intOf];omega⟩
    ·obtain rfl:m=T:=by have:=Gy.o;omega
     have hge:¬ m < m:=hlt
     have Jd:Hid (zY l=vw S):=qI (by
      have h9:=Gm.o
      rw [List.drop_of_length_le (by rw [Gg.o];exact Nat.le_refl _),jn S [] (by simp)] at h9
      unfold zY
      rw [← Gx.o,← h9])
     have Mn:Hid (zb [] w wr):=qI ((Jl.o.then Jr.o).trans Gu.o (by have:=Gh.o;intro i hi;simp at hi;subst hi;exact .inr (by omega)))
     have Mo:=qI ((Jr.o.heap Ma.o (by simp)))
     have Mp:Hid (yf wr w.heap.size (xy zw 0)):=qI (Gu.o.heap Mo.o (by have:=Gh.o;simp;omega))
     obtain⟨wo,Je⟩:∃ wo,Hid (wo=wr.alloc (.cells ((xy S 0).map bv).toArray 45)):=⟨_,qI rfl⟩
     obtain⟨ob,Jf⟩:∃ ob,Hid (ob=wr.heap.size):=⟨_,qI rfl⟩
     have Jg:Hid (zb [] wr wo):=qI (by rw [Je.o];exact (zb.refl _ _).alloc _)
     have Mq:Hid (yf wo ob (xy S 0)):=qI (by rw [Je.o,Jf.o];exact zd rfl)
     have Jh:Hid (sb < ob∧w.heap.size < ob):=qI (by have h9:=lt_of_block HW.o;have:=Gh.o;rw [Jf.o];omega)
     have Ji:=qI (W8.kept HW.o Jg.o (by simp))
     have Mr:=qI (Jg.o.heap Mp.o (by simp))
     clear hlt
     go_upto_region 12 with fail
     change Code.wp _ _ _ _ (wr.alloc (.cells ((xy S 0).map bv).toArray 45))
     rw [← Je.o,← Jf.o]
     go_wp2_with fail
     go_loopw [9] (fun i wq=>∃ k:Nat,i = .int .i64 k∧k≤32∧yf wq ob (xy S k)∧zb [ob] wo wq) (fun i _=>32 - (intOf i).toNat)
     case atStart=>exact⟨0,rfl,Nat.zero_le _,Mq.o,zb.refl _ _⟩
     case round=>
      obtain⟨k,rfl,hk,ho,hkq⟩:=hrel
      have HO:=qI ho
      have Ju:=qI hkq
      have Ms:=qI (W8.kept Ji.o hkq (by have:=Jh.o;simp;omega))
      have Mt:Hid (yf wr w.heap.size (xy zw 0)):=qI (hkq.heap Mr.o (by have:=Jh.o;simp;omega))
      rcases Nat.lt_or_ge k 32 with h32 | h32
      ·have h32I:(k:Int) < 32:=by omega
       have c0:=w8_at Ms.o (k:=k / 4) (by omega)
       have o0:=za (o:=k) (v:=bv ((xy S k)[k]'(by rw [z6];exact h32))) ho (by rw [List.getElem?_toArray,List.getElem?_map,List.getElem?_eq_getElem (by rw [z6];exact h32)];rfl)
       have f0:=zh (o:=k) ho
       clear ho hkq
       go_wp2_with fail
       case roundEnd=>
        have hst:zb [ob] wr (wr.setCell ⟨ob,k,none⟩ (.int .u8 (S.get (k / 4) / 2 ^ (24 - 8 * (k % 4)) % 256))):=(zb.refl _ _).setCell (.inl (by simp)) _
        exact⟨⟨k + 1,by go_num,by omega,ze HO.o (outK_set S k h32),Ju.o.trans' hst⟩,by simp [intOf];omega⟩
      ·obtain rfl:k=32:=by omega
       clear ho hkq
       rw [outK_all] at HO
       have hsz:((vw S).map bv).toArray.size=32:=by simp [km]
       go_upto_region 16 with fail
       refine wp_region_list ?_
       change wpList _ _ _ [_,_] _ _
       refine yz (by rfl) (.tmp 8) (by rfl) HO.o (km S) (by rfl) ?_
       refine zu (by rfl) (.tmp 2) (.tmp 62) (by rfl) (g:=w.heap.size) (l:=vw S) Mt.o (z6 _ _) (km S) (by rfl) (by rfl) ?_
       intro WF hF hkF
       have hres:=yf.var hF (km S)
       try simp only [zA,zN,zB,zC,zD]
       have Mu:=qI hkF
       clear hkF hF
       go_wp2_with fail
       refine bodyPost_ret (v:=.agg ((vw S).map bv).toArray) (by simp only [results,results47];simp [hres,Sem.run_bind,asAddr]) rfl ?_
       rw [Jd.o]
       exact⟨rfl,((Mn.o.then Jg.o).trans Ju.o (by have:=Jh.o;intro i hi;simp at hi;subst hi;exact .inr (by omega))).trans Mu.o (by intro i hi;simp at hi;subst hi;exact .inr (Nat.le_refl _))⟩
def Kx (z:Int):Int:=if 48≤z∧z≤57 then z - 48 else if 97≤z∧z≤102 then z - 97 + 10 else -1
theorem dig1_low (c:UInt8):(xK c=true→Kx c.toNat=(hv c:Int)∧hv c < 16)∧(xK c=false→Kx c.toNat = -1):=by
 have h:∀ n:Fin 256,(xK (UInt8.ofNat n.val)=true→Kx (UInt8.ofNat n.val).toNat=(hv (UInt8.ofNat n.val):Int)∧hv (UInt8.ofNat n.val) < 16)∧(xK (UInt8.ofNat n.val)=false→Kx (UInt8.ofNat n.val).toNat = -1):=by decide +kernel
 have:=h ⟨c.toNat,c.toNat_lt⟩
 simpa only [UInt8.ofNat_toNat] using this
theorem zag {P:Program}{t:TypeId}(ht:P.underlying t=some .string) (s:ByteArray) (m:Nat) (h:m < s.data.toList.length) (W:World):(Instr.index t (.string s) (.int .i64 m)).run P W = .ok (.int .u8 s.data.toList[m].toNat) W:=by
 rw [run_index_string _ t s .i64 m ht,dif_pos ⟨by omega,by simp only [Array.length_toList] at h;have:s.data.size=s.size:=rfl;omega⟩]
 rfl
theorem index_str1 {P:Program}{t:TypeId}(ht:P.underlying t=some .string) (s:ByteArray) (m:Nat) (h:m + 1 < s.data.toList.length) (W:World):(Instr.index t (.string s) (.int .i64 ((m:Int) + 1))).run P W = .ok (.int .u8 s.data.toList[m + 1].toNat) W:=zag ht s (m + 1) h W
theorem hex_join16 (x y:Nat) (hx:x < 16) (hy:y < 16):Value.int .u8 ((16 * (x:Int) + y) % 256)=bv (UInt8.ofNat (x * 16 + y)):=by
 unfold bv
 congr 1
 have:(UInt8.ofNat (x * 16 + y)).toNat=x * 16 + y:=by simp [UInt8.toNat_ofNat'];omega
 rw [this]
 omega
theorem ZF (z:Int) (h0:0≤z) (h1:z≤255) (w:World):Calls Tryz.prog 66 #[.int .u8 z] w fun e w'=>e = .returned (.int .i64 (Kx z))∧w=w':=by
 by_cases c1:48≤z∧z≤57
 ·have HZ:Hid (Kx z=z - 48):=qI (by unfold Kx;rw [if_pos c1])
  obtain⟨g1,g2⟩:=c1
  go_enter func66,ntmps66
  go_wp2_with fail
  go_ret
  exact⟨Zf HZ.o.symm,rfl⟩
 by_cases c2:97≤z∧z≤102
 ·have HZ:Hid (Kx z=z - 97 + 10):=qI (by unfold Kx;rw [if_neg c1,if_pos c2])
  obtain⟨g1,g2⟩:=c2
  have g3:¬ z≤57:=by omega
  clear c1
  go_enter func66,ntmps66
  go_wp2_with fail
  go_ret
  exact⟨Zf HZ.o.symm,rfl⟩
 have HZ:Hid (Kx z = -1):=qI (by unfold Kx;rw [if_neg c1,if_neg c2])
 have d1:z < 48∨(57 < z∧z < 97)∨102 < z:=by omega
 clear c1 c2
 rcases d1 with g | ⟨g,g'⟩ | g
 ·have k1:¬ 48≤z:=by omega
  have k2:¬ 97≤z:=by omega
  go_enter func66,ntmps66
  go_wp2_with fail
  go_ret
  exact⟨Zf HZ.o.symm,rfl⟩
 ·have k0:48≤z:=by omega
  have k1:¬ z≤57:=by omega
  have k2:¬ 97≤z:=by omega
  go_enter func66,ntmps66
  go_wp2_with fail
  go_ret
  exact⟨Zf HZ.o.symm,rfl⟩
 ·have k0:48≤z:=by omega
  have k1:¬ z≤57:=by omega
  have k2:97≤z:=by omega
  have k3:¬ z≤102:=by omega
  go_enter func66,ntmps66
  go_wp2_with fail
  go_ret
  exact⟨Zf HZ.o.symm,rfl⟩
theorem tyB1:yR Tryz.prog 53 5 1 1 (.int .u8 0):=⟨underlying53,by kernel_rfl,rfl,by decide⟩
def UnhexR (w w':World) (e:Ending):Option (List UInt8)→Prop
 | none=>e = .returned (.tuple #[.slice none 0 0,.bool false])
 | some l=>∃ a c,e = .returned (.tuple #[.slice a l.length c,.bool true])∧zp w' (.slice a l.length c) l∧∀ g,yq (.slice a l.length c)=some g→w.heap.size≤g
theorem Z5 (s:ByteArray) (hs:s.size≤140737488355328) (w:World):Calls Tryz.prog 32 #[.string s] w fun e w'=>UnhexR w w' e (yB s)∧zb [] w w':=by
 obtain⟨z,HZ⟩:∃ z,Hid (z=s.size):=⟨_,qI rfl⟩
 have HL:Hid (s.data.toList.length=s.size):=qI (by simp)
 have HU:Hid (yB s=if s.size % 2=0∧s.data.toList.all xK=true then some (yO s.data.toList) else none):=qI rfl
 have HP:=qI (br s.data.toList)
 have Mv:=qI (b6 s.data.toList)
 have hsI:(s.size:Int)≤140737488355328:=by omega
 have Jv:Hid (∀ (j:Nat) (h:j < s.data.toList.length),xK s.data.toList[j]=false→yB s=none):=qI (fun j h hl=>by
  rw [HU.o,if_neg]
  rintro ⟨-,ha⟩
  have:=List.all_eq_true.1 ha _ (List.getElem_mem h)
  rw [hl] at this;cases this)
 have hsN:=qI hs
 clear hs
 go_enter func32,ntmps32
 go_wp2_with fail
 go_loopw [4,5] (fun out i wr=>∃ (m k:Nat) (a:Option Addr) (c:Nat),i = .int .i64 m∧Hid (m=2 * k∧m≤s.size)∧out = .slice a k c∧wr.ownsRow w.heap.size 5 1 (.slice a k c) k (((yO s.data.toList).take k).map bv)∧Hid (∀ (j:Nat) (h:j < s.data.toList.length),j < m→xK s.data.toList[j]=true)∧zb [] w wr) (fun _ i _=>s.size - (intOf i).toNat)
 case atStart=>exact⟨0,0,none,0,rfl,qI ⟨rfl,Nat.zero_le _⟩,rfl,World.ownsRow_nil _ _ _ _,qI (fun j h hj=>by omega),zb.refl _ _⟩
 case round=>
  obtain⟨m,k,a,c,rfl,HM,rfl,hrow,Gn,hkr⟩:=hrel
  have Ga:=qI hrow
  have Gb:=qI hkr
  clear hrow hkr
  by_cases hlt:m < s.size
  ·have hltI:(m:Int) < s.size:=by omega
   by_cases hl2:m + 1 < s.size
   rotate_left
   ·have hge:(s.size:Int)≤(m:Int) + 1:=by omega
    have HN:Hid (yB s=none):=qI (by rw [HU.o,if_neg];rintro ⟨h1,-⟩;have:=HM.o.1;omega)
    clear hl2 hlt
    go_wp2_with fail
    go_ret2
    rw [HN.o]
    exact⟨rfl,Gb.o⟩
   have hge:(m:Int) + 1 < s.size:=by omega
   have hj1:m < s.data.toList.length:=by rw [HL.o];exact hlt
   have hj2:m + 1 < s.data.toList.length:=by rw [HL.o];exact hl2
   have I1:=qI (zag underlying9 s m hj1)
   have I2:=qI (index_str1 underlying9 s m hj2)
   have N1:=qI (Jv.o m hj1)
   have N2:=qI (Jv.o (m + 1) hj2)
   have D1:=qI (dig1_low s.data.toList[m])
   have D2:=qI (dig1_low s.data.toList[m + 1])
   have L1:Hid (xK s.data.toList[m]=true→xK s.data.toList[m + 1]=true→∀ (j:Nat) (h:j < s.data.toList.length),j < m + 2→xK s.data.toList[j]=true):=qI (fun g1 g2 j h hj=>by
    rcases Nat.lt_or_ge j m with q | q
    ·exact Gn.o j h q
    ·obtain rfl | rfl:j=m∨j=m + 1:=by omega
     ·exact g1
     ·exact g2)
   have C1:=qI (ZF (s.data.toList[m].toNat:Int) (by omega) (by have:=s.data.toList[m].toNat_lt;omega))
   have C2:=qI (ZF (s.data.toList[m + 1].toNat:Int) (by omega) (by have:=s.data.toList[m + 1].toNat_lt;omega))
   have hkp:2 * k + 1 < s.data.toList.length:=by rw [← HM.o.1];exact hj2
   obtain⟨p1,p2⟩:=Mv.o k hkp
   have HN:Hid ((yO s.data.toList).take (k + 1)=(yO s.data.toList).take k ++ [UInt8.ofNat (hv s.data.toList[m] * 16 + hv s.data.toList[m + 1])]):=qI (by
    rw [List.take_succ_eq_append_getElem p1,p2]
    simp only [HM.o.1])
   have Jw:Hid (m + 1 < s.size):=qI hl2
   clear p1 p2 hkp
   revert I1 I2 N1 N2 D1 D2 L1 C1 C2 HN
   generalize s.data.toList[m]=xb
   generalize s.data.toList[m + 1]=yb
   intro I1 I2 N1 N2 D1 D2 L1 C1 C2 HN
   obtain⟨px,HX⟩:∃ px:Int,Hid (px=xb.toNat):=⟨_,qI rfl⟩
   obtain⟨py,HY⟩:∃ py:Int,Hid (py=yb.toNat):=⟨_,qI rfl⟩
   rw [← HX.o] at I1 C1 D1
   rw [← HY.o] at I2 C2 D2
   clear hj1 hj2 hl2 hlt
   have hix:=I1.o
   have hiy:=I2.o
   rcases Bool.eq_false_or_eq_true (xK xb) with e1 | e1
   rotate_left
   ·have Jj:=qI (N1.o e1)
    rw [D1.o.2 e1] at C1
    go_wp2_with (go_at_call 66;refine (C1.o _).mono ?_;rintro e w5 ⟨rfl,rfl⟩)
    go_ret2
    rw [Jj.o]
    exact⟨rfl,Gb.o⟩
   obtain⟨d1,x16⟩:=D1.o.1 e1
   rcases Bool.eq_false_or_eq_true (xK yb) with e2 | e2
   rotate_left
   ·have Jj:=qI (N2.o e2)
    rw [D2.o.2 e2] at C2
    rw [d1] at C1
    clear d1 x16
    generalize hv xb=hx at *
    go_wp2_with first
     | (have Jn:=GO1;go_at_call 66;refine (C2.o _).mono ?_;rintro e w5 ⟨rfl,rfl⟩)
     | (go_at_call 66;refine (C1.o _).mono ?_;rintro e w5 ⟨rfl,rfl⟩;have GO1:=True.intro)
    go_ret2
    rw [Jj.o]
    exact⟨rfl,Gb.o⟩
   obtain⟨d2,y16⟩:=D2.o.1 e2
   rw [d1] at C1
   rw [d2] at C2
   have Mw:=qI (L1.o e1 e2)
   clear d1 d2 D1 D2 e1 e2 L1 N1 N2
   revert C1 C2 HN x16 y16
   generalize hv xb=hx
   generalize hv yb=hy
   intro HN C1 C2 x16 y16
   have X16:=qI x16
   have Y16:=qI y16
   clear x16 y16
   go_upto_region 7 with first
    | (have Jn:=GO1;go_at_call 66;refine (C2.o _).mono ?_;rintro e w5 ⟨rfl,rfl⟩)
    | (go_at_call 66;refine (C1.o _).mono ?_;rintro e w5 ⟨rfl,rfl⟩;have GO1:=True.intro)
   clear hix hiy
   obtain⟨bb,Jx⟩:∃ bb,Hid (bb=UInt8.ofNat (hx * 16 + hy)):=⟨_,qI rfl⟩
   rw [← Jx.o] at HN
   refine vb (n:=48) 14 [zg.is (.slice a k c),
    zg.is (.string s),
    zg.is (.int .i64 m),
    zg.is (.int .u8 px),
    zg.is (.int .i64 hx),
    zg.is (.int .i64 (16 * hx)),
    zg.is (.string s),
    zg.is (.int .i64 m),
    zg.is (.int .i64 (m + 1)),
    zg.is (.int .u8 py),
    zg.is (.int .i64 hy),
    zg.is (.int .i64 (16 * hx + hy)),
    zg.is (.int .u8 (bb.toNat:Int)),
    yU [bv bb] 1 1] (by kernel_rfl) rfl (by kernel_rfl) (fun x=>by simp only [List.map,yM,Act.put,List.setIfInBounds_toArray,List.set_cons_zero,List.set_cons_succ];rfl) (fun x hx=>by rw [show x 15 = .slice a k c from hx 15 (by decide) (by decide)]) ?_ ?_
   ·refine⟨fun x w2 hkw b hd=>?_,fun x w2 hkw b hd=>?_,fun x w2 hkw b hd=>?_,fun x w2 hkw b hd=>?_,fun x w2 hkw b hd=>?_,fun x w2 hkw b hd=>?_,fun x w2 hkw b hd=>?_,fun x w2 hkw b hd=>?_,fun x w2 hkw b hd=>?_,fun x w2 hkw b hd=>?_,fun x w2 hkw b hd=>?_,fun x w2 hkw b hd=>?_,fun x w2 hkw b hd=>?_,fun x w2 hkw b hd=>?_,trivial⟩
    ·go_wp2_with fail
     exact⟨rfl,zb.refl _ _⟩
    ·go_wp2_with fail
     exact⟨rfl,zb.refl _ _⟩
    ·go_wp2_with fail
     exact⟨rfl,zb.refl _ _⟩
    ·have d1:x 1=_:=hd 1 (by kernel_rfl)
     have d2:x 2=_:=hd 2 (by kernel_rfl)
     have hix:=I1.o w2
     go_wp2_with fail
     exact⟨rfl,zb.refl _ _⟩
    ·have d3:x 3=_:=hd 3 (by kernel_rfl)
     have CX:=C1.o w2
     go_wp2_with (go_at_call 66;refine CX.mono ?_;rintro e w5 ⟨rfl,rfl⟩)
     exact⟨rfl,zb.refl _ _⟩
    ·have d4:x 4=_:=hd 4 (by kernel_rfl)
     have hxI:(hx:Int) < 16:=by have:=X16.o;omega
     go_wp2_with fail
     exact⟨rfl,zb.refl _ _⟩
    ·go_wp2_with fail
     exact⟨rfl,zb.refl _ _⟩
    ·go_wp2_with fail
     exact⟨rfl,zb.refl _ _⟩
    ·have d7:x 7=_:=hd 7 (by kernel_rfl)
     go_wp2_with fail
     exact⟨rfl,zb.refl _ _⟩
    ·have d6:x 6=_:=hd 6 (by kernel_rfl)
     have d8:x 8=_:=hd 8 (by kernel_rfl)
     have hix:=I2.o w2
     go_wp2_with fail
     exact⟨rfl,zb.refl _ _⟩
    ·have d9:x 9=_:=hd 9 (by kernel_rfl)
     have CX:=C2.o w2
     go_wp2_with (go_at_call 66;refine CX.mono ?_;rintro e w5 ⟨rfl,rfl⟩)
     exact⟨rfl,zb.refl _ _⟩
    ·have d5:x 5=_:=hd 5 (by kernel_rfl)
     have d10:x 10=_:=hd 10 (by kernel_rfl)
     have hxI:(hx:Int) < 16:=by have:=X16.o;omega
     have hyI:(hy:Int) < 16:=by have:=Y16.o;omega
     go_wp2_with fail
     exact⟨rfl,zb.refl _ _⟩
    ·have d11:x 11=_:=hd 11 (by kernel_rfl)
     have HJ:Hid (Value.int .u8 ((16 * (hx:Int) + hy) % 256)=bv bb):=qI (by rw [Jx.o];exact hex_join16 hx hy X16.o Y16.o)
     go_wp2_with fail
     refine⟨?_,zb.refl _ _⟩
     exact HJ.o
    ·have d12:x 12=_:=hd 12 (by kernel_rfl)
     go_wp2_with fail
     exact⟨⟨w2.heap.size,rfl,Nat.le_refl _,by simp,jl w2 _ _ _ rfl⟩,(zb.refl _ _).alloc _⟩
   ·intro x9 w7 hkw b hd hwin
    have d0:x9 0=_:=hd 0 (by decide)
    obtain⟨g9,d13,g1,g2,hsl⟩:=hd 13 (by decide)
    have Gz:=qI hsl
    have Gi:=qI hkw
    clear hd hwin hkw hsl g1 g2
    change wpList _ _ _ [_,_] _ _
    go_wp2_with (at_builtin;refine zj tyB1 (v:=.slice a k c) (n:=k) (zk Ga.o Gi.o (by simp)) Gz.o (by simp [bv,Value.oneCell']) (by simp only [maxLen];have:=hsN.o;have:=HM.o;omega) (by have:=hsN.o;have:=HM.o;omega) (by have:=Gb.o.size;have:=Gi.o.size;simp;omega) rfl _ _ rfl d0 d13 ?_;intro v5 w8 hown hk5 _ hb5;obtain⟨a5,c5,rfl,-,-⟩:=(Slc.of_row hown).form;have Gf:=qI hown;have Gc:=qI hk5;clear hown hk5 hb5)
    case roundEnd=>
     refine⟨⟨m + 2,k + 1,a5,c5,by go_num,qI (by have:=HM.o;have:=Jw.o;omega),rfl,by rw [HN.o,List.map_append];exact Gf.o,Mw,(Gb.o.then Gi.o).trans Gc.o (fun i hi=>.inr (Ga.o.lt i (Option.mem_toList.1 hi)).1)⟩,by have:=Jw.o;simp [intOf];omega⟩
  ·have HE:Hid (yB s=some (yO s.data.toList)):=qI (by
    have h1:=HM.o
    rw [HU.o,if_pos ⟨by omega,List.all_eq_true.2 (fun c hc=>by
     obtain⟨j,hj,rfl⟩:=List.getElem_of_mem hc
     exact Gn.o j hj (by rw [HL.o] at hj;omega))⟩])
   have Jy:Hid (k=(yO s.data.toList).length):=qI (by have h1:=HM.o;rw [HP.o,HL.o];omega)
   go_wp2_with fail
   go_ret2
   rw [HE.o]
   have hrow:=Ga.o
   rw [Jy.o,List.take_length] at hrow
   refine⟨⟨a,c,by rw [← Jy.o];rfl,Slc.of_row hrow,fun g hg=>(hrow.lt g (ye hg)).1⟩,Gb.o⟩
theorem refId_any (s:ByteArray) (hs:s.size≤140737488355328) (w:World):Calls Tryz.prog 33 #[.string s] w fun e w'=>e = .returned (.bool (kv s))∧zb [] w w':=by
 have CU:=Z5 s hs w
 have HI:Hid (kv s=match yB s with | none=>false | some l=>decide (l.length=32)):=qI rfl
 clear hs
 rcases hu:yB s with _ | l
 ·rw [hu] at CU HI
  have CU:=qI CU
  clear hu
  go_enter func33,ntmps33
  go_wp2_with (go_at_call 32;refine CU.o.mono ?_;rintro e w1 ⟨he,hk⟩;change e=_ at he;subst he;have HK:=qI hk;clear hk)
  go_ret
  exact⟨by rw [HI.o];rfl,HK.o⟩
 ·rw [hu] at CU HI
  have CU:=qI CU
  have HI:Hid (kv s=decide (l.length=32)):=qI HI.o
  clear hu
  by_cases hl:l.length=32
  ·have f1:=(xt (a:=(l.length:Int)) (b:=32) (by omega)).1
   rw [decide_eq_true hl] at HI
   clear hl
   go_enter func33,ntmps33
   go_wp2_with (go_at_call 32;refine CU.o.mono ?_;rintro e w1 ⟨⟨a,c,rfl,-,-⟩,hk⟩;have HK:=qI hk;clear hk)
   go_ret
   exact⟨by rw [HI.o];rfl,HK.o⟩
  ·have f1:=(yx (a:=(l.length:Int)) (b:=32) (by omega)).1
   rw [decide_eq_false hl] at HI
   clear hl
   go_enter func33,ntmps33
   go_wp2_with (go_at_call 32;refine CU.o.mono ?_;rintro e w1 ⟨⟨a,c,rfl,-,-⟩,hk⟩;have HK:=qI hk;clear hk)
   go_ret
   exact⟨by rw [HI.o];rfl,HK.o⟩
end Go.Proofs.YtibnfbglanpoiaaGreatDoor

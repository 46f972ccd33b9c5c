/- Parts of one proof, merged: XGM XGN XGD XGE. -/
import Derived.Test.YtibnfbglanpoiaaGreatDoorQbAF
import Derived.Test.YtibnfbglanpoiaaGreatDoorQbJ
import Derived.Test.YtibnfbglanpoiaaGreatDoorQbL
import Derived.Test.YtibnfbglanpoiaaGreatDoorQbB
import Derived.Test.YtibnfbglanpoiaaGreatDoorQbP
import Derived.Test.YtibnfbglanpoiaaGreatDoorQbC
import Derived.Test.YtibnfbglanpoiaaGreatDoorQbK
import Derived.Test.YtibnfbglanpoiaaGreatDoorQbG
import Derived.Deep.DeepCutAuto
import Derived.Deep.CutBlock
import Derived.Test.YtibnfbglanpoiaaGreatDoorQbU
set_option linter.all false
set_option maxHeartbeats 12800000
set_option maxRecDepth 10000
set_option linter.unusedVariables false
set_option linter.unusedSimpArgs false
set_option linter.unnecessarySimpa false
namespace Go.Proofs.YtibnfbglanpoiaaGreatDoor
open Go.Proofs.Tryz
open Go.RowKit
def vX (n j:Nat):List UInt8:=(List.range 8).map (fun i=>if 8 - j≤i then putB n 8 i else 0)
theorem downL_len (n j:Nat):(vX n j).length=8:=by simp [vX]
theorem downL_all (n:Nat):vX n 8=qE n 8:=rfl
theorem downL_set (n j m:Nat) (hj:j < 8) (hm:m=n / 256 ^ j):((vX n j).map bv).set (7 - j) (.int .u8 ((m:Int) % 256))=(vX n (j + 1)).map bv:=by
 have hb:Value.int .u8 ((m:Int) % 256)=bv (putB n 8 (7 - j)):=by
  rw [putB,ZF,hm,show 8 - 1 - (7 - j)=j by omega,Nat.pow_mul]
 rw [hb]
 apply List.ext_getElem
 ·simp [vX]
 ·intro i h1 h2
  rw [List.getElem_set]
  by_cases e:7 - j=i
  ·rw [if_pos e]
   simp only [vX,List.getElem_map,List.getElem_range]
   rw [if_pos (by omega),e]
  ·rw [if_neg e]
   simp only [vX,List.getElem_map,List.getElem_range]
   congr 1
   have hi:i < 8:=by simpa [vX] using h2
   by_cases h:8 - j≤i
   ·rw [if_pos h,if_pos (by omega)]
   ·rw [if_neg h,if_neg (by omega)]
set_option maxRecDepth 100000 in
theorem refPut8_any (n:Nat) (w:World) (hn:n < 9223372036854775808):Calls Tryz.prog 86 #[.int .i64 n,.int .i64 8] w fun e w'=>∃ a c,e = .returned (.tuple #[.slice a 8 c,.bool true])∧w'.ownsRow w.heap.size 5 1 (.slice a 8 c) 8 ((qE n 8).map bv)∧zb [] w w':=by
 have hmk:(Instr.makeSlice 53 (.int .i64 8) (.int .i64 8)).run Tryz.prog w = .ok (.slice (some ⟨w.heap.size,0,none⟩) 8 8) (w.alloc (.cells (madeCells #[.int .u8 0] 8) 5)):=Z1 w 8 (by decide)
 have hnn:=qI hn
 have Jr:Hid (∀ W1,W1=w.alloc (.cells (madeCells #[.int .u8 0] 8) 5)→W1.ownsRow w.heap.size 5 1 (.slice (some ⟨w.heap.size,0,none⟩) 8 8) 8 ((vX n 0).map bv)∧zb [] w W1):=qI (by
  rintro W1 rfl
  exact⟨ZU w w.heap.size 8 (by decide) (Nat.le_refl _),(zb.refl _ w).alloc _⟩)
 clear hn
 go_enter func86,ntmps86
 go_upto_region 4 with fail
 obtain⟨W1,Jg⟩:∃ W1,Hid (W1=w.alloc (.cells (madeCells #[.int .u8 0] 8) 5)):=⟨_,qI rfl⟩
 obtain⟨ho1,hk1⟩:=Jr.o W1 Jg.o
 have Gk:=qI ho1
 have Gl:=qI hk1
 clear ho1 hk1 hmk
 rw [← Jg.o]
 go_wp2_with fail
 go_loopw [0,7] (fun nv i wr=>∃ j m:Nat,j≤8∧i = .int .i64 (7 - (j:Int))∧nv = .int .i64 m∧Hid (m=n / 256 ^ j)∧wr.ownsRow w.heap.size 5 1 (.slice (some ⟨w.heap.size,0,none⟩) 8 8) 8 ((vX n j).map bv)∧zb [] w wr) (fun _ i _=>(intOf i + 1).toNat)
 case atStart=>exact⟨0,n,Nat.zero_le _,rfl,rfl,qI (by simp),Gk.o,Gl.o⟩
 case round=>
  obtain⟨j,m,hj,rfl,rfl,HM,hown,hkr⟩:=hrel
  have Hown:=qI hown
  have HK:=qI hkr
  have hmI:(m:Int)≤9223372036854775807:=by have:=HM.o;have:=Nat.div_le_self n (256 ^ j);have:=hnn.o;omega
  by_cases h4:j < 8
  ·have hi:(0:Int)≤7 - j:=by omega
   have hi2:(7:Int) - j < 8:=by omega
   have hc:=hown.cellAt (7 - j) (by omega)
   have hf:=hown.frozenAt (7 - j)
   obtain⟨cv,hcv⟩:∃ cv,wr.cell? ⟨w.heap.size,7 - j,none⟩=some cv:=⟨_,hc.trans (List.getElem?_eq_getElem (by rw [List.length_map,downL_len];omega))⟩
   have ht:((7:Int) - j).toNat=7 - j:=by omega
   have HT:=qI ht
   have H8:=qI h4
   clear hc hown hkr ht
   go_wp2_with fail
   have hst:=(Hown.o.stored (7 - j) (.int .u8 ((m:Int) % 256))).1
   rw [downL_set n j m h4 HM.o] at hst
   refine⟨⟨j + 1,m / 256,by omega,?_,?_,qI ?_,hst,HK.o.setCell (by simp) _⟩,by simp [intOf];omega⟩
   ·rw [show (7:Int) - ((j + 1:Nat):Int)=7 - j - 1 by omega]
   ·rw [Int.natCast_ediv];rfl
   ·rw [HM.o,Nat.div_div_eq_div_mul,Nat.pow_succ]
  ·obtain rfl:j=8:=by omega
   have h0:m=0:=by rw [HM.o];exact Nat.div_eq_of_lt (by have:=hnn.o;omega)
   clear hown hkr
   subst h0
   go_wp2_with fail
   go_ret2
   have h9:=Hown.o
   rw [downL_all] at h9
   exact⟨_,_,rfl,h9,HK.o⟩
theorem ones_bv (l:List UInt8):∀ u,u ∈ l.map bv→u.oneCell'=true:=yW l
set_option maxRecDepth 100000 in
theorem refSha_any (w:World) (a:Option Addr) (c:Nat) (l:List UInt8) (hb:zo w (.slice a l.length c) l) (hl:l.length≤100000000) :
  Calls Tryz.prog 47 #[.slice a l.length c] w fun e w'=>e = .returned (.agg ((zW l).map bv).toArray)∧zb [] w w':=by
 obtain⟨W0,Gm⟩:∃ W0,Hid (W0=w.alloc (.cells (((yZ zr 0).map bv).toArray) 45)):=⟨_,qI rfl⟩
 have Jh:Hid (zb [] w W0):=qI (by rw [Gm.o];exact (zb.refl _ w).alloc _)
 have Js:Hid (ya W0 w.heap.size (yZ zr 0)):=qI (by rw [Gm.o];exact zd rfl)
 have Jt:Hid (W0.heap.size=w.heap.size + 1):=qI (by rw [Gm.o];simp)
 obtain⟨n,HN⟩:∃ n,Hid (n=l.length):=⟨_,qI rfl⟩
 have HB:=qI (Slc.kept0 hb Jh.o)
 rw [← HN.o] at HB hl ⊢
 have hnI:(n:Int)≤100000000:=by omega
 have Gc:=qI hl
 clear hb hl
 go_enter func47,ntmps47
 go_upto_region 1 with fail
 change Code.wp _ _ _ _ (w.alloc (.cells (((yZ zr 0).map bv).toArray) 45))
 rw [← Gm.o]
 have Ji:=qI (bR (t:=5) (size:=1) (base:=W0.heap.size) W0 rfl (Nat.le_refl _))
 have Gb:Hid (zb [] W0 (W0.alloc (.cells #[] 5))):=qI ((zb.refl _ _).alloc _)
 go_upto_region 2 with first
  | (have Mo:=GO1;at_builtin;refine zj vA (v:=.slice a1 n c1) (n:=n) (zk Gk.o ((zb.refl [] w1).alloc _) (by simp)) (jA w1 (.int .u8 128) _ _ rfl) (by simp [Value.oneCell']) (by simp only [maxLen];have:=Gc.o;omega) (by have:=Gc.o;omega) (by have:=Gl.o.size;simp;omega) rfl _ _ rfl rfl rfl ?_;intro v2 w2 hown hk2 _ hb2;obtain⟨a2,c2,rfl,-,-⟩:=(Slc.of_row hown).form;have Ju:=qI hown;have Jv:Hid (zb [] W0 w2):=qI ((Gl.o.then ((zb.refl [] w1).alloc _)).trans hk2 (fun i hi=>.inr (Gk.o.lt i (Option.mem_toList.1 hi)).1));clear hown hk2 hb2)
  | (at_builtin;refine zj vA (v:=.slice (some ⟨W0.heap.size,0,none⟩) 0 0) (n:=0) Ji.o (Slc.kept0 HB.o Gb.o) (ones_bv l) (by simp only [maxLen];have:=Gc.o;omega) (by have:=Gc.o;omega) (by simp) rfl _ _ rfl rfl rfl ?_;intro v1 w1 hown hk1 _ hb1;rw [Nat.zero_add,List.nil_append] at hown;obtain⟨a1,c1,rfl,-,-⟩:=(Slc.of_row hown).form;have Gk:=qI hown;have Gl:Hid (zb [] W0 w1):=qI (Gb.o.trans hk1 (by intro i hi;simp [Value.ownBlock] at hi;subst hi;exact .inr (Nat.le_refl _)));have GO1:=True.intro;clear hown hk1 hb1)
 obtain⟨P,HP⟩:∃ P,Hid (P=(119 - n % 64) % 64):=⟨_,qI rfl⟩
 clear Ji Gb
 go_loopw [3] (fun out wr=>∃ (k:Nat) (a3:Option Addr) (c3:Nat),Hid (k≤P)∧out = .slice a3 (n + 1 + k) c3∧wr.ownsRow W0.heap.size 5 1 (.slice a3 (n + 1 + k) c3) (n + 1 + k) ((l ++ 128 :: List.replicate k 0).map bv)∧zb [] W0 wr) (fun out _=>P + n + 1 - ZI out)
 case atStart=>
  refine⟨0,a2,c2,qI (Nat.zero_le _),rfl,?_,Jv.o⟩
  have h9:=Ju.o
  have e9:List.map bv (l ++ 128 :: List.replicate 0 0)=List.map bv l ++ [Value.int .u8 128]:=by rw [List.map_append];rfl
  rw [e9]
  exact h9
 case round=>
  obtain⟨k,a3,c3,Gs,rfl,hrow,hkr⟩:=hrel
  have Ga:=qI hrow
  have Gn:=qI hkr
  clear hrow hkr
  obtain⟨m,HM⟩:∃ m,Hid (m=n + 1 + k):=⟨_,qI rfl⟩
  rw [← HM.o] at Ga ⊢
  have hmI:(m:Int)≤200000000:=by have:=HM.o;have:=Gs.o;have:=HP.o;have:=Gc.o;omega
  by_cases h56:m % 64=56
  rotate_left
  ·have ft:((m:Int) % 64 != 56)=true:=(xn (by omega)).2
   have Jj:Hid (k < P):=qI (by have:=HM.o;have:=Gs.o;have:=HP.o;omega)
   clear h56
   go_wp2_with (at_builtin;refine zj vA (v:=.slice a3 m c3) (n:=m) (zk Ga.o ((zb.refl [] wr).alloc _) (by simp)) (jA wr (.int .u8 0) _ _ rfl) (by simp [Value.oneCell']) (by simp only [maxLen];omega) (by omega) (by have:=Gn.o.size;simp;omega) rfl _ _ rfl rfl rfl ?_;intro v5 w5 hown hk5 _ hb5;obtain⟨a5,c5,rfl,-,-⟩:=(Slc.of_row hown).form;have Gt:=qI hown;have Gd:=qI hk5;clear hown hk5 hb5)
   case roundEnd=>
    refine⟨⟨k + 1,a5,c5,qI Jj.o,by rw [HM.o];rfl,?_,(Gn.o.then ((zb.refl [] wr).alloc _)).trans Gd.o (fun i hi=>.inr (Ga.o.lt i (Option.mem_toList.1 hi)).1)⟩,by have:=HM.o;have:=Jj.o;simp only [ZI];omega⟩
    have h9:=Gt.o
    rw [show n + 1 + (k + 1)=m + 1 by have:=HM.o;omega]
    have e9:List.map bv (l ++ 128 :: List.replicate (k + 1) 0)=List.map bv (l ++ 128 :: List.replicate k 0) ++ [Value.int .u8 0]:=by rw [List.replicate_succ'];simp [bv]
    rw [e9]
    exact h9
  ·have ft:((m:Int) % 64 != 56)=false:=(q8 (by omega)).2
   have Gb:Hid (k=P):=qI (by have:=HM.o;have:=Gs.o;have:=HP.o;omega)
   clear h56
   clear ft
   have CP:Hid (∀ w1,Calls Tryz.prog 86 #[.int .i64 (8 * (n:Int)),.int .i64 8] w1 fun e w'=>∃ a c,e = .returned (.tuple #[.slice a 8 c,.bool true])∧w'.ownsRow w1.heap.size 5 1 (.slice a 8 c) 8 ((qE (8 * n) 8).map bv)∧zb [] w1 w'):=qI (fun w1=>by
    have h9:=refPut8_any (8 * n) w1 (by have:=Gc.o;omega)
    rw [show ((8 * n:Nat):Int)=8 * (n:Int) by omega] at h9
    exact h9)
   have ft:((m:Int) % 64 != 56)=false:=(q8 (by have:=HM.o;have:=Gb.o;have:=HP.o;omega)).2
   go_upto_region 5 with (go_at_call 86;refine (CP.o _).mono ?_;rintro e w5 ⟨pa,pc,rfl,hp,hk5⟩;have Jw:=qI hp;have Gd:=qI hk5;clear hp hk5)
   go_upto_region 6 with (at_builtin;refine zj vA (v:=.slice a3 m c3) (n:=m) (zk Ga.o Gd.o (by simp)) (Slc.of_row Jw.o) (ones_bv _) (by simp only [maxLen];omega) (by omega) (by have:=Gn.o.size;have:=Gd.o.size;omega) rfl _ _ rfl rfl rfl ?_;intro v6 w6 hown hk6 _ hb6;obtain⟨a9,c9,rfl,-,-⟩:=(Slc.of_row hown).form;have Gu:=qI hown;have Jx:Hid (zb [] W0 w6):=qI ((Gn.o.then Gd.o).trans hk6 (fun i hi=>.inr (Ga.o.lt i (Option.mem_toList.1 hi)).1));clear hown hk6 hb6)
   obtain⟨T,Gp⟩:∃ T,Hid (T=m + 8):=⟨_,qI rfl⟩
   obtain⟨AL,Gv⟩:∃ AL,Hid (AL=l ++ Z8 (l.length % 64) l.length):=⟨_,qI rfl⟩
   have Ge:Hid (AL.length=T):=qI (by rw [Gv.o,Gp.o,HM.o,Gb.o,HP.o,HN.o];simp [Z8,yI];omega)
   have Jk:Hid (zo w6 (.slice a9 T c9) AL):=qI (by
    have h9:=Slc.of_row Gu.o
    unfold zo
    rw [Ge.o,Gp.o]
    have e9:List.map bv AL=List.map bv (l ++ 128 :: List.replicate k 0) ++ List.map bv (qE (8 * n) 8):=by
     rw [Gv.o,Gb.o,HP.o,HN.o,← List.map_append]
     unfold Z8
     simp
    rw [e9]
    exact h9)
   have Gq:Hid (T % 64=0∧T≤200000000):=qI (by have:=Gp.o;have:=HM.o;have:=Gb.o;have:=HP.o;have:=Gc.o;omega)
   rw [← Gp.o]
   clear ft hmI
   obtain⟨sb,Gg⟩:∃ sb,Hid (sb=sb):=⟨0,qI rfl⟩
   clear Gg sb
   go_upto_region 7 with first
    | (go_at_call 87;refine (first_any _).mono ?_;rintro e w7 ⟨rfl,hk7⟩;have Jl:=qI (Jx.o.then hk7);have Gh:=qI hk7;clear hk7)
    | (refine qw (by rfl) (.tmp 6) (.tmp 32) (by rfl) (g:=w7.heap.size) (s:=S8.mk 0 0 0 0 0 0 0 0) (r:=zr) (zd rfl) (by rfl) (by rfl) ?_;intro w8 h8 hk8;have Jm:=qI h8;have Gi:Hid (zb [] w7 w8):=qI (((zb.refl [] w7).alloc _).trans hk8 (by intro i hi;simp at hi;subst hi;exact .inr (Nat.le_refl _)));clear h8 hk8;simp only [Act.put])
   obtain⟨sb,Gg⟩:∃ sb,Hid (sb=w7.heap.size):=⟨_,qI rfl⟩
   have Gf:Hid (w.heap.size < sb):=qI (by have:=Jl.o.size;have:=Jt.o;rw [Gg.o];omega)
   rw [← Gg.o] at Jm ⊢
   have Jy:=qI (Jk.o.kept0 (Gh.o.then Gi.o))
   have Jn:=qI (Jl.o.then Gi.o)
   have hTI:(T:Int)≤200000000:=by have:=Gq.o.2;omega
   go_wp2_with fail
   go_loopw [7] (fun i wr=>∃ (m:Nat) (S:S8),i = .int .i64 m∧Hid (m % 64=0∧m≤T)∧W8 wr sb S∧Hid (ke S (AL.drop m)=ke zr AL)∧zb [sb] w8 wr) (fun i _=>T - (intOf i).toNat)
   case atStart=>exact⟨0,zr,rfl,qI ⟨rfl,Nat.zero_le _⟩,Jm.o,qI rfl,zb.refl _ _⟩
   case round=>
    obtain⟨m,S,rfl,Gw,hw,Gj,hkr⟩:=hrel
    have HW:=qI hw
    have Gr:=qI hkr
    clear hw hkr
    by_cases hlt:m < T
    ·have hltI:(m:Int) < T:=by omega
     have Jo:Hid ((m:Int) < 200000000):=qI (by have:=Gq.o.2;omega)
     have hml:m + 64≤AL.length:=by have:=Gw.o;have:=Gq.o;rw [Ge.o];omega
     obtain⟨a8,c8,hs,hby,hvb⟩:=(show zo w8 (.slice a9 T c9) AL from Jy.o).mid vA m (m + 64) (by omega) hml
     rw [show m + 64 - m=64 by omega] at hs hby hvb
     have Jz:Hid (∀ W,(Instr.slice 53 (.slice a9 T c9) (some (.int .i64 m)) (some (.int .i64 (m + 64))) none).run Tryz.prog W = .ok (.slice a8 64 c8) W):=qI hs
     obtain⟨blk,Gx⟩:∃ blk,Hid (blk=(AL.drop m).take 64):=⟨_,qI rfl⟩
     rw [← Gx.o] at hby
     have Ma:Hid (blk.length=64):=qI (by rw [Gx.o,List.length_take,List.length_drop];omega)
     have Mb:Hid (∀ g,yj (.slice a8 64 c8)=some g→g≠sb):=qI (fun g hg e=>by
      have h1:=Slc.lt (show zo w6 (.slice a9 T c9) AL from Jk.o) (hvb g hg)
      have h2:=Gh.o.size
      have h3:=Gg.o
      omega)
     have Mc:=qI (Slc.kept hby Gr.o (fun g hg hx=>by simp at hx;exact Mb.o g hg hx))
     have Md:Hid (ke (xt S blk) (AL.drop (m + 64))=ke zr AL):=qI (by
      rw [← Gj.o,jS S (AL.drop m) (by rw [List.length_drop];omega),← Gx.o,List.drop_drop])
     have Jp:=qI hlt
     clear hs hby hvb hlt hml
     go_upto_region 10 with fail
     refine zU (n:=63) 7 [zg.is (.agg (S.list.map wv).toArray),
      zg.is (.slice a9 T c9),
      zg.is (.int .i64 m),
      zg.is (.int .i64 m),
      zg.is (.int .i64 (m + 64)),
      zg.is (.slice a8 64 c8),
      zg.is (.agg ((xt S blk).list.map wv).toArray)] (by kernel_rfl) rfl (by kernel_rfl) (fun x=>by simp only [List.map,yJ,Act.put,List.setIfInBounds_toArray,List.set_cons_zero,List.set_cons_succ];rfl) ?_ ?_
     ·refine⟨fun x w2 hkw b hd=>?_,fun x w2 hkw b hd=>?_,fun x w2 hkw b hd=>?_,fun x w2 hkw b hd=>?_,fun x w2 hkw b hd=>?_,fun x w2 hkw b hd=>?_,fun x w2 hkw b hd=>?_,trivial⟩
      ·refine vJ (by rfl) (.tmp 6) (by rfl) (W8.kept HW.o hkw (by simp)) (by rfl) ?_
       go_wp2_with fail
       exact⟨rfl,zb.refl _ _⟩
      ·go_wp2_with fail
       exact⟨rfl,zb.refl _ _⟩
      ·go_wp2_with fail
       exact⟨rfl,zb.refl _ _⟩
      ·go_wp2_with fail
       exact⟨rfl,zb.refl _ _⟩
      ·have d3:x 3=_:=hd 3 (by kernel_rfl)
       have hmI:=Jo.o
       go_wp2_with fail
       exact⟨rfl,zb.refl _ _⟩
      ·have d1:x 1=_:=hd 1 (by kernel_rfl)
       have d2:x 2=_:=hd 2 (by kernel_rfl)
       have d4:x 4=_:=hd 4 (by kernel_rfl)
       have hsl:=Jz.o w2
       go_wp2_with fail
       exact⟨rfl,zb.refl _ _⟩
      ·have d0:x 0=_:=hd 0 (by kernel_rfl)
       have d5:x 5=_:=hd 5 (by kernel_rfl)
       have CX:=zar w2 S a8 c8 blk Ma.o (Mc.o.kept0 hkw)
       go_wp2_with (go_at_call 88;refine CX.mono ?_;rintro e w5 ⟨rfl,hk5⟩;have Gd:=qI hk5;clear hk5)
       exact⟨rfl,Gd.o⟩
     ·intro x w9 hkw b9 hd hwin
      have d6:x 6=_:=hd 6 (by decide)
      have Me:=qI hkw
      have Mf:=qI (W8.kept HW.o hkw (by simp))
      clear hd hwin hkw
      change wpList _ _ _ [_] _ _
      have hmI:=Jo.o
      go_wp2_with (refine qw (by rfl) (.tmp 6) (.tmp 45) (by rfl) (g:=sb) (s:=S) (r:=xt S blk) Mf.o (by rfl) d6 ?_;intro w11 h11 hk11;have Gy:=qI h11;have Gz:=qI hk11;clear h11 hk11;simp only [Act.put])
      case roundEnd=>
       exact⟨⟨m + 64,xt S blk,by go_num,qI (by have:=Gw.o;have:=Gq.o;have:=Jp.o;omega),Gy.o,Md,(Gr.o.then Me.o).trans' Gz.o⟩,by have:=Jp.o;simp [intOf];omega⟩
    ·obtain rfl:m=T:=by have:=Gw.o;omega
     have hge:¬ m < m:=hlt
     have Ja:Hid (zW l=j9 S):=qI (by
      have h9:=Gj.o
      rw [List.drop_of_length_le (by rw [Ge.o];exact Nat.le_refl _),jd S [] (by simp)] at h9
      unfold zW
      rw [← Gv.o,← h9])
     have Mg:Hid (zb [] w wr):=qI ((Jh.o.then Jn.o).trans Gr.o (by have:=Gf.o;intro i hi;simp at hi;subst hi;exact .inr (by omega)))
     have Mh:=qI ((Jn.o.heap Js.o (by simp)))
     have Mi:Hid (ya wr w.heap.size (yZ zr 0)):=qI (Gr.o.heap Mh.o (by have:=Gf.o;simp;omega))
     obtain⟨wo,Jb⟩:∃ wo,Hid (wo=wr.alloc (.cells ((yZ S 0).map bv).toArray 45)):=⟨_,qI rfl⟩
     obtain⟨ob,Jc⟩:∃ ob,Hid (ob=wr.heap.size):=⟨_,qI rfl⟩
     have Jd:Hid (zb [] wr wo):=qI (by rw [Jb.o];exact (zb.refl _ _).alloc _)
     have Mj:Hid (ya wo ob (yZ S 0)):=qI (by rw [Jb.o,Jc.o];exact zd rfl)
     have Je:Hid (sb < ob∧w.heap.size < ob):=qI (by have h9:=lt_of_block HW.o;have:=Gf.o;rw [Jc.o];omega)
     have Jf:=qI (W8.kept HW.o Jd.o (by simp))
     have Mk:=qI (Jd.o.heap Mi.o (by simp))
     clear hlt
     go_upto_region 12 with fail
     change Code.wp _ _ _ _ (wr.alloc (.cells ((yZ S 0).map bv).toArray 45))
     rw [← Jb.o,← Jc.o]
     go_wp2_with fail
     go_loopw [9] (fun i wq=>∃ k:Nat,i = .int .i64 k∧k≤32∧ya wq ob (yZ S k)∧zb [ob] wo wq) (fun i _=>32 - (intOf i).toNat)
     case atStart=>exact⟨0,rfl,Nat.zero_le _,Mj.o,zb.refl _ _⟩
     case round=>
      obtain⟨k,rfl,hk,ho,hkq⟩:=hrel
      have HO:=qI ho
      have Jq:=qI hkq
      have Ml:=qI (W8.kept Jf.o hkq (by have:=Je.o;simp;omega))
      have Mm:Hid (ya wr w.heap.size (yZ zr 0)):=qI (hkq.heap Mk.o (by have:=Je.o;simp;omega))
      rcases Nat.lt_or_ge k 32 with h32 | h32
      ·have h32I:(k:Int) < 32:=by omega
       have c0:=w8_at Ml.o (k:=k / 4) (by omega)
       have o0:=za (o:=k) (v:=bv ((yZ S k)[k]'(by rw [zX];exact h32))) ho (by rw [List.getElem?_toArray,List.getElem?_map,List.getElem?_eq_getElem (by rw [zX];exact h32)];rfl)
       have f0:=zh (o:=k) ho
       clear ho hkq
       go_wp2_with fail
       case roundEnd=>
        have hst:zb [ob] wr (wr.setCell ⟨ob,k,none⟩ (.int .u8 (S.get (k / 4) / 2 ^ (24 - 8 * (k % 4)) % 256))):=(zb.refl _ _).setCell (.inl (by simp)) _
        exact⟨⟨k + 1,by go_num,by omega,ze HO.o (outK_set S k h32),Jq.o.trans' hst⟩,by simp [intOf];omega⟩
      ·obtain rfl:k=32:=by omega
       clear ho hkq
       rw [outK_all] at HO
       have hsz:((j9 S).map bv).toArray.size=32:=by simp [kb]
       go_upto_region 16 with fail
       refine wp_region_list ?_
       change wpList _ _ _ [_,_] _ _
       refine yv (by rfl) (.tmp 8) (by rfl) HO.o (kb S) (by rfl) ?_
       refine zt (by rfl) (.tmp 2) (.tmp 62) (by rfl) (g:=w.heap.size) (l:=j9 S) Mm.o (zX _ _) (kb S) (by rfl) (by rfl) ?_
       intro WF hF hkF
       have hres:=ya.var hF (kb S)
       try simp only [zA,zN,zB,zC,zD]
       have Mn:=qI hkF
       clear hkF hF
       go_wp2_with fail
       refine bodyPost_ret (v:=.agg ((j9 S).map bv).toArray) (by simp only [results,results47];simp [hres,Sem.run_bind,asAddr]) rfl ?_
       rw [Ja.o]
       exact⟨rfl,((Mg.o.then Jd.o).trans Jq.o (by have:=Je.o;intro i hi;simp at hi;subst hi;exact .inr (by omega))).trans Mn.o (by intro i hi;simp at hi;subst hi;exact .inr (Nat.le_refl _))⟩
end Go.Proofs.YtibnfbglanpoiaaGreatDoor

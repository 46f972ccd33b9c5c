/- Parts of one proof, merged: XGM XGN XGO. -/
import Derived.Test.YtibnfbglanpoiaaGreatDoorQeV
import Derived.Test.YtibnfbglanpoiaaGreatDoorQeT
set_option linter.all false
set_option maxHeartbeats 12800000
set_option maxRecDepth 100000
namespace Go.Proofs.YtibnfbglanpoiaaGreatDoor
open Go.Proofs.Tryz
open Go.RowKit
def Ze (n j:Nat):List UInt8:=(List.range 8).map (fun i=>if 8-j≤i then putB n 8 i else 0)
theorem downL_len (n j:Nat):(Ze n j).length=8:=by simp [Ze]
theorem downL_all (n:Nat):Ze n 8=qP n 8:=rfl
theorem downL_set (n j m:Nat) (hj:j<8) (hm:m=n/256 ^ j):((Ze n j).map bv).set (7-j) (.int .u8 ((m:Int)%256))=(Ze n (j+1)).map bv:=by
 have hb:Value.int .u8 ((m:Int)%256)=bv (putB n 8 (7-j)):=by
  rw [putB,Zh,hm,show 8-1-(7-j)=j by omega,Nat.pow_mul]
 rw [hb]
 apply List.ext_getElem
 ·simp [Ze]
 ·intro i h1 h2
  rw [List.getElem_set]
  by_cases e:7-j=i
  ·rw [if_pos e]
   simp only [Ze,List.getElem_map,List.getElem_range]
   rw [if_pos Ws,e]
  ·rw [if_neg e]
   simp only [Ze,List.getElem_map,List.getElem_range]
   congr 1
   have hi:i<8:=by simpa [Ze] using h2
   by_cases h:8-j≤i
   ·rw [if_pos h,if_pos Ws]
   ·rw [if_neg h,if_neg Ws]
theorem refPut8_any (n:Nat) (w:World) (hn:n<9223372036854775808):Calls Tryz.prog 86 #[.int .i64 n,.int .i64 8] w fun e w'=>∃ a c,e = .returned (.tuple #[.slice a 8 c,.bool true])∧w'.ownsRow w.heap.size 5 1 (.slice a 8 c) 8 ((qP n 8).map bv)∧zb [] w w':=by
 have hmk:(Instr.makeSlice 53 (.int .i64 8) (.int .i64 8)).run Tryz.prog w = .ok (.slice (some ⟨w.heap.size,0,none⟩) 8 8) (w.alloc (.cells (madeCells #[.int .u8 0] 8) 5)):=Z2 w 8 Wo
 have hnn:=qI hn
 have Jy:Hid (∀ W1,W1=w.alloc (.cells (madeCells #[.int .u8 0] 8) 5)→W1.ownsRow w.heap.size 5 1 (.slice (some ⟨w.heap.size,0,none⟩) 8 8) 8 ((Ze n 0).map bv)∧zb [] w W1):=qI (by
  rintro W1 rfl
  exact⟨ZY w w.heap.size 8 Wo (Nat.le_refl _),(zb.refl _ w).alloc _⟩)
 clear hn
 go_enter func86,ntmps86
 go_upto_region 4 with fail
 obtain⟨W1,Jn⟩:∃ W1,Hid (W1=w.alloc (.cells (madeCells #[.int .u8 0] 8) 5)):=⟨_,qI rfl⟩
 obtain⟨ho1,hk1⟩:=Jy.o W1 Jn.o
 have Gs:=qI ho1
 have Gt:=qI hk1
 clear ho1 hk1 hmk
 rw [← Jn.o]
 go_wp2_with fail
 go_loopw [0,7] (fun nv i wr=>∃ j m:Nat,j≤8∧i = .int .i64 (7-(j:Int))∧nv = .int .i64 m∧Hid (m=n/256 ^ j)∧wr.ownsRow w.heap.size 5 1 (.slice (some ⟨w.heap.size,0,none⟩) 8 8) 8 ((Ze n j).map bv)∧zb [] w wr) (fun _ i _=>(intOf i+1).toNat)
 case atStart=>exact⟨0,n,Nat.zero_le _,rfl,rfl,qI Wz,Gs.o,Gt.o⟩
 case round=>
  obtain⟨j,m,hj,rfl,rfl,HM,hown,hkr⟩:=hrel
  have Hown:=qI hown
  have HK:=qI hkr
  have hmI:(m:Int)≤9223372036854775807:=by have:=HM.o;have:=Nat.div_le_self n (256 ^ j);have:=hnn.o;omega
  by_cases h4:j<8
  ·have hi:(0:Int)≤7-j:=by omega
   have hi2:(7:Int)-j<8:=Ws
   have hc:=hown.cellAt (7-j) Ws
   have hf:=hown.frozenAt (7-j)
   obtain⟨cv,hcv⟩:∃ cv,wr.cell? ⟨w.heap.size,7 - j,none⟩=some cv:=⟨_,hc.trans (List.getElem?_eq_getElem (by rw [List.length_map,downL_len];omega))⟩
   have ht:((7:Int)-j).toNat=7-j:=Ws
   have HT:=qI ht
   have H8:=qI h4
   clear hc hown hkr ht
   go_wp2_with fail
   have hst:=(Hown.o.stored (7-j) (.int .u8 ((m:Int)%256))).1
   rw [downL_set n j m h4 HM.o] at hst
   refine⟨⟨j+1,m/256,Ws,?_,?_,qI ?_,hst,HK.o.setCell Wz _⟩,by simp [intOf];omega⟩
   ·rw [show (7:Int)-((j+1:Nat):Int)=7-j-1 by omega]
   ·rw [Int.natCast_ediv];rfl
   ·rw [HM.o,Nat.div_div_eq_div_mul,Nat.pow_succ]
  ·obtain rfl:j=8:=by omega
   have h0:m=0:=by rw [HM.o];exact Nat.div_eq_of_lt (by have:=hnn.o;omega)
   clear hown hkr
   subst h0
   go_wp2_with fail
   go_ret2
   have h9:=Hown.o
   rw [downL_all] at h9
   exact⟨_,_,rfl,h9,HK.o⟩
theorem ones_bv (l:List UInt8):∀ u,u∈l.map bv→u.oneCell'=true:=yL l
theorem YT (w:World) (a:Option Addr) (c:Nat) (l:List UInt8) (hb:zp w (.slice a l.length c) l) (hl:l.length≤100000000) :
  CL w 47 #[.slice a l.length c] (.agg ((zV l).map bv).toArray):=by
 obtain⟨W0,Gc⟩:∃ W0,Hid (W0=w.alloc (.cells (((xe zu 0).map bv).toArray) 45)):=⟨_,qI rfl⟩
 have Gk:Hid (zb [] w W0):=qI (kA1 Gc.o)
 have Jz:Hid (zR W0 w.heap.size (xe zu 0)):=qI (by rw [Gc.o];exact zd rfl)
 have Ma:Hid (W0.heap.size=w.heap.size+1):=qI (by rw [Gc.o];simp)
 obtain⟨n,HN⟩:∃ n,Hid (n=l.length):=⟨_,qI rfl⟩
 have HB:=qI (Slc.kept0 hb Gk.o)
 rw [← HN.o] at HB hl ⊢
 have hnI:(n:Int)≤100000000:=Ws
 have Gb:=qI hl
 clear hb hl
 go_enter func47,ntmps47
 go_upto_region 1 with fail
 refine yq Gc.o ?_
 have Jo:=qI (vO (t:=5) (size:=1) (base:=W0.heap.size) W0 rfl (Nat.le_refl _))
 have Gf:Hid (zb [] W0 (W0.alloc (.cells #[] 5))):=qI (Wd.alloc _)
 go_upto_region 2 with first
  | (have Mu:=GO1;at_builtin;refine zk vI (v:=.slice a1 n c1) (n:=n) (zo Gs.o ((zb.refl [] w1).alloc _) Wz) (jK w1 (.int .u8 128) _ _ rfl) (by simp [Value.oneCell']) (by simp only [maxLen];have:=Gb.o;omega) (by have:=Gb.o;omega) (by have:=Gt.o.size;simp;omega) rfl _ _ rfl rfl rfl ?_;intro v2 w2 hown hk2 _ hb2;obtain⟨a2,c2,rfl,-,-⟩:=(Slc.of_row hown).form;have Mb:=qI hown;have Mc:Hid (zb [] W0 w2):=qI ((Gt.o.then ((zb.refl [] w1).alloc _)).trans hk2 (fun i hi=>.inr (Gs.o.lt i (Option.mem_toList.1 hi)).1));clear hown hk2 hb2)
  | (at_builtin;refine zk vI (v:=.slice (some ⟨W0.heap.size,0,none⟩) 0 0) (n:=0) Jo.o (Slc.kept0 HB.o Gf.o) (ones_bv l) (by simp only [maxLen];have:=Gb.o;omega) (by have:=Gb.o;omega) Wz rfl _ _ rfl rfl rfl ?_;intro v1 w1 hown hk1 _ hb1;rw [Nat.zero_add,List.nil_append] at hown;obtain⟨a1,c1,rfl,-,-⟩:=(Slc.of_row hown).form;have Gs:=qI hown;have Gt:Hid (zb [] W0 w1):=qI (Gf.o.trans hk1 (by intro i hi;simp [Value.ownBlock] at hi;subst hi;exact .inr (Nat.le_refl _)));have GO1:=True.intro;clear hown hk1 hb1)
 obtain⟨P,HP⟩:∃ P,Hid (P=(119 - n%64)%64):=⟨_,qI rfl⟩
 clear Jo Gf
 go_loopw [3] (fun out wr=>∃ (k:Nat) (a3:Option Addr) (c3:Nat),Hid (k≤P)∧out = .slice a3 (n+1+k) c3∧wr.ownsRow W0.heap.size 5 1 (.slice a3 (n+1+k) c3) (n+1+k) ((l++128::List.replicate k 0).map bv)∧zb [] W0 wr) (fun out _=>P+n+1-YW out)
 case atStart=>
  refine⟨0,a2,c2,qI (Nat.zero_le _),rfl,?_,Mc.o⟩
  have h9:=Mb.o
  have e9:List.map bv (l++128::List.replicate 0 0)=List.map bv l++[Value.int .u8 128]:=by rw [List.map_append];rfl
  rw [e9]
  exact h9
 case round=>
  obtain⟨k,a3,c3,Gy,rfl,hrow,hkr⟩:=hrel
  have Ga:=qI hrow
  have Gd:=qI hkr
  clear hrow hkr
  obtain⟨m,HM⟩:∃ m,Hid (m=n+1+k):=⟨_,qI rfl⟩
  rw [← HM.o] at Ga ⊢
  have hmI:(m:Int)≤200000000:=by have:=HM.o;have:=Gy.o;have:=HP.o;have:=Gb.o;omega
  by_cases h56:m%64=56
  rotate_left
  ·have ft:((m:Int)%64 != 56)=true:=(yF Ws).2
   have Jp:Hid (k<P):=qI (by have:=HM.o;have:=Gy.o;have:=HP.o;omega)
   clear h56
   go_wp2_with (at_builtin;refine zk vI (v:=.slice a3 m c3) (n:=m) (zo Ga.o ((zb.refl [] wr).alloc _) Wz) (jK wr (.int .u8 0) _ _ rfl) (by simp [Value.oneCell']) (by simp only [maxLen];omega) Ws (by have:=Gd.o.size;simp;omega) rfl _ _ rfl rfl rfl ?_;intro v5 w5 hown hk5 _ hb5;obtain⟨a5,c5,rfl,-,-⟩:=(Slc.of_row hown).form;have Gg:=qI hown;have Ge:=qI hk5;clear hown hk5 hb5)
   case roundEnd=>
    refine⟨⟨k+1,a5,c5,qI Jp.o,by rw [HM.o];rfl,?_,(Gd.o.then ((zb.refl [] wr).alloc _)).trans Ge.o (fun i hi=>.inr (Ga.o.lt i (Option.mem_toList.1 hi)).1)⟩,by have:=HM.o;have:=Jp.o;simp only [YW];omega⟩
    have h9:=Gg.o
    rw [show n+1+(k+1)=m+1 by have:=HM.o;omega]
    have e9:List.map bv (l++128::List.replicate (k+1) 0)=List.map bv (l++128::List.replicate k 0)++[Value.int .u8 0]:=by rw [List.replicate_succ'];simp [bv]
    rw [e9]
    exact h9
  ·have ft:((m:Int)%64 != 56)=false:=(xH Ws).2
   have Gf:Hid (k=P):=qI (by have:=HM.o;have:=Gy.o;have:=HP.o;omega)
   clear h56
   clear ft
   have CP:Hid (∀ w1,Calls Tryz.prog 86 #[.int .i64 (8*(n:Int)),.int .i64 8] w1 fun e w'=>∃ a c,e = .returned (.tuple #[.slice a 8 c,.bool true])∧w'.ownsRow w1.heap.size 5 1 (.slice a 8 c) 8 ((qP (8*n) 8).map bv)∧zb [] w1 w'):=qI (fun w1=>by
    have h9:=refPut8_any (8*n) w1 (by have:=Gb.o;omega)
    rw [show ((8*n:Nat):Int)=8*(n:Int) by omega] at h9
    exact h9)
   have ft:((m:Int)%64 != 56)=false:=(xH (by have:=HM.o;have:=Gf.o;have:=HP.o;omega)).2
   go_upto_region 5 with (go_at_call 86;refine (CP.o _).mono ?_;rintro e w5 ⟨pa,pc,rfl,hp,hk5⟩;have Gz:=qI hp;have Ge:=qI hk5;clear hp hk5)
   go_upto_region 6 with (at_builtin;refine zk vI (v:=.slice a3 m c3) (n:=m) (zo Ga.o Ge.o Wz) (Slc.of_row Gz.o) (ones_bv _) (by simp only [maxLen];omega) Ws (by have:=Gd.o.size;have:=Ge.o.size;omega) rfl _ _ rfl rfl rfl ?_;intro v6 w6 hown hk6 _ hb6;obtain⟨a9,c9,rfl,-,-⟩:=(Slc.of_row hown).form;have Ja:=qI hown;have Md:Hid (zb [] W0 w6):=qI ((Gd.o.then Ge.o).trans hk6 (fun i hi=>.inr (Ga.o.lt i (Option.mem_toList.1 hi)).1));clear hown hk6 hb6)
   obtain⟨T,Gu⟩:∃ T,Hid (T=m+8):=⟨_,qI rfl⟩
   obtain⟨AL,Jb⟩:∃ AL,Hid (AL=l++QG (l.length%64) l.length):=⟨_,qI rfl⟩
   have Gh:Hid (AL.length=T):=qI (by rw [Jb.o,Gu.o,HM.o,Gf.o,HP.o,HN.o];simp [QG,xu];omega)
   have Jq:Hid (zp w6 (.slice a9 T c9) AL):=qI (by
    have h9:=Slc.of_row Ja.o
    unfold zp
    rw [Gh.o,Gu.o]
    have e9:List.map bv AL=List.map bv (l++128::List.replicate k 0)++List.map bv (qP (8*n) 8):=by
     rw [Jb.o,Gf.o,HP.o,HN.o,← List.map_append]
     unfold QG
     simp
    rw [e9]
    exact h9)
   have Gv:Hid (T%64=0∧T≤200000000):=qI (by have:=Gu.o;have:=HM.o;have:=Gf.o;have:=HP.o;have:=Gb.o;omega)
   rw [← Gu.o]
   clear ft hmI
   obtain⟨sb,Gn⟩:∃ sb,Hid (sb=sb):=⟨0,qI rfl⟩
   clear Gn sb
   go_upto_region 7 with first
    | (go_at_call 87;refine (first_any _).mono ?_;rintro e w7 ⟨rfl,hk7⟩;have Gl:=qI (Md.o.then hk7);have Gp:=qI hk7;clear hk7)
    | (refine kj Wk (.tmp 6) (.tmp 32) Wk (g:=w7.heap.size) (s:=S8.mk 0 0 0 0 0 0 0 0) (r:=zu) (zd rfl) Wk Wk ?_;intro w8 h8 hk8;have Jr:=qI h8;have Gq:Hid (zb [] w7 w8):=qI (((zb.refl [] w7).alloc _).trans hk8 (by intro i hi;simp at hi;subst hi;exact .inr (Nat.le_refl _)));clear h8 hk8;simp only [Act.put])
   obtain⟨sb,Gn⟩:∃ sb,Hid (sb=w7.heap.size):=⟨_,qI rfl⟩
   have Gi:Hid (w.heap.size<sb):=qI (by have:=Gl.o.size;have:=Ma.o;rw [Gn.o];omega)
   rw [← Gn.o] at Jr ⊢
   have Gm:=qI (Jq.o.kept0 (Gp.o.then Gq.o))
   have Js:=qI (Gl.o.then Gq.o)
   have hTI:(T:Int)≤200000000:=by have:=Gv.o.2;omega
   go_wp2_with fail
   go_loopw [7] (fun i wr=>∃ (m:Nat) (S:S8),i = .int .i64 m∧Hid (m%64=0∧m≤T)∧W8 wr sb S∧Hid (kW S (AL.drop m)=kW zu AL)∧zb [sb] w8 wr) (fun i _=>T-(intOf i).toNat)
   case atStart=>exact⟨0,zu,rfl,qI ⟨rfl,Nat.zero_le _⟩,Jr.o,qI rfl,Wd⟩
   case round=>
    obtain⟨m,S,rfl,Jc,hw,Gr,hkr⟩:=hrel
    have HW:=qI hw
    have Gw:=qI hkr
    clear hw hkr
    by_cases hlt:m<T
    ·have hltI:(m:Int)<T:=by omega
     have Jt:Hid ((m:Int)<200000000):=qI (by have:=Gv.o.2;omega)
     have hml:m+64≤AL.length:=by have:=Jc.o;have:=Gv.o;rw [Gh.o];omega
     obtain⟨a8,c8,hs,hby,hvb⟩:=(show zp w8 (.slice a9 T c9) AL from Gm.o).mid vI m (m+64) Ws hml
     rw [show m+64-m=64 by omega] at hs hby hvb
     have Jd:Hid (∀ W,(Instr.slice 53 (.slice a9 T c9) (some (.int .i64 m)) (some (.int .i64 (m+64))) none).run Tryz.prog W = .ok (.slice a8 64 c8) W):=qI hs
     obtain⟨blk,Je⟩:∃ blk,Hid (blk=(AL.drop m).take 64):=⟨_,qI rfl⟩
     rw [← Je.o] at hby
     have Me:Hid (blk.length=64):=qI (by rw [Je.o,List.length_take,List.length_drop];omega)
     have Mf:Hid (∀ g,zW (.slice a8 64 c8)=some g→g≠sb):=qI (fun g hg e=>by
      have h1:=Slc.lt (show zp w6 (.slice a9 T c9) AL from Jq.o) (hvb g hg)
      have h2:=Gp.o.size
      have h3:=Gn.o
      omega)
     have Mg:=qI (Slc.kept hby Gw.o (fun g hg hx=>by simp at hx;exact Mf.o g hg hx))
     have Mh:Hid (kW (xY S blk) (AL.drop (m+64))=kW zu AL):=qI (by
      rw [← Gr.o,bu S (AL.drop m) (by rw [List.length_drop];omega),← Je.o,List.drop_drop])
     have Gj:=qI hlt
     clear hs hby hvb hlt hml
     go_upto_region 10 with fail
     refine zK (n:=63) 7 [fI (.agg (S.list.map wv).toArray),
      fI (.slice a9 T c9),
      fI (.int .i64 m),
      fI (.int .i64 m),
      fI (.int .i64 (m+64)),
      fI (.slice a8 64 c8),
      fI (.agg ((xY S blk).list.map wv).toArray)] Wr rfl Wr (fun x=>yH) ?_ ?_
     ·refine⟨?_,?_,?_,?_,?_,?_,?_,trivial⟩ <;> intro x w2 hkw b hd
      ·refine bM Wk (.tmp 6) Wk (W8.kept HW.o hkw Wz) Wk ?_
       exact ze
      ·exact ze
      ·exact ze
      ·exact ze
      ·have d3:x 3=_:=hd 3 Wr
       have hmI:=Jt.o
       exact ze
      ·have d1:x 1=_:=hd 1 Wr
       have d2:x 2=_:=hd 2 Wr
       have d4:x 4=_:=hd 4 Wr
       have hsl:=Jd.o w2
       exact ze
      ·have d0:x 0=_:=hd 0 Wr
       have d5:x 5=_:=hd 5 Wr
       have CX:=refBlock_any w2 S a8 c8 blk Me.o (Mg.o.kept0 hkw)
       go_wp2_with (go_at_call 88;refine CX.mh ?_;rintro e w5 rfl Ge)
       exact⟨rfl,Ge.o⟩
     ·intro x w9 hkw b9 hd hwin
      have d6:x 6=_:=hd 6 Wo
      have Mi:=qI hkw
      have Mj:=qI (W8.kept HW.o hkw Wz)
      clear hd hwin hkw
      change wpList _ _ _ [_] _ _
      have hmI:=Jt.o
      go_wp2_with (refine kj Wk (.tmp 6) (.tmp 45) Wk (g:=sb) (s:=S) (r:=xY S blk) Mj.o Wk d6 ?_;intro w11 h11 hk11;have Jf:=qI h11;have Jg:=qI hk11;clear h11 hk11;simp only [Act.put])
      case roundEnd=>
       exact⟨⟨m+64,xY S blk,by go_num,qI (by have:=Jc.o;have:=Gv.o;have:=Gj.o;omega),Jf.o,Mh,(Gw.o.then Mi.o).trans' Jg.o⟩,by have:=Gj.o;simp [intOf];omega⟩
    ·obtain rfl:m=T:=by have:=Jc.o;omega
     have hge:¬ m<m:=hlt
     have Jh:Hid (zV l=bd S):=qI (by
      have h9:=Gr.o
      rw [List.drop_of_length_le (by rw [Gh.o];exact Nat.le_refl _),jN S [] Wz] at h9
      unfold zV
      rw [← Jb.o,← h9])
     have Mk:Hid (zb [] w wr):=qI ((Gk.o.then Js.o).trans Gw.o (by have:=Gi.o;intro i hi;simp at hi;subst hi;exact .inr Ws))
     have Ml:=qI ((Js.o.heap Jz.o Wz))
     have Mm:Hid (zR wr w.heap.size (xe zu 0)):=qI (Gw.o.heap Ml.o (by have:=Gi.o;simp;omega))
     obtain⟨wo,Ji⟩:∃ wo,Hid (wo=wr.alloc (.cells ((xe S 0).map bv).toArray 45)):=⟨_,qI rfl⟩
     obtain⟨ob,Jj⟩:∃ ob,Hid (ob=wr.heap.size):=⟨_,qI rfl⟩
     have Jk:Hid (zb [] wr wo):=qI (kA1 Ji.o)
     have Mn:Hid (zR wo ob (xe S 0)):=qI (by rw [Ji.o,Jj.o];exact zd rfl)
     have Jl:Hid (sb<ob∧w.heap.size<ob):=qI (by have h9:=lt_of_block HW.o;have:=Gi.o;rw [Jj.o];omega)
     have Jm:=qI (W8.kept HW.o Jk.o Wz)
     have Mo:=qI (Jk.o.heap Mm.o Wz)
     clear hlt
     go_upto_region 12 with fail
     change Code.wp _ _ _ _ (wr.alloc (.cells ((xe S 0).map bv).toArray 45))
     rw [← Ji.o,← Jj.o]
     go_wp2_with fail
     go_loopw [9] (fun i wq=>∃ k:Nat,i = .int .i64 k∧k≤32∧zR wq ob (xe S k)∧zb [ob] wo wq) (fun i _=>32-(intOf i).toNat)
     case atStart=>exact⟨0,rfl,Nat.zero_le _,Mn.o,Wd⟩
     case round=>
      obtain⟨k,rfl,hk,ho,hkq⟩:=hrel
      have HO:=qI ho
      have Ju:=qI hkq
      have Mp:=qI (W8.kept Jm.o hkq (by have:=Jl.o;simp;omega))
      have Mq:Hid (zR wr w.heap.size (xe zu 0)):=qI (hkq.heap Mo.o (by have:=Jl.o;simp;omega))
      rcases Nat.lt_or_ge k 32 with h32 | h32
      ·have h32I:(k:Int)<32:=by omega
       have c0:=w8_at Mp.o (k:=k/4) Ws
       have o0:=za (o:=k) (v:=bv ((xe S k)[k]'(by rw [zJ];exact h32))) ho (by rw [List.getElem?_toArray,List.getElem?_map,List.getElem?_eq_getElem (by rw [zJ];exact h32)];rfl)
       have f0:=zh (o:=k) ho
       clear ho hkq
       go_wp2_with fail
       case roundEnd=>
        have hst:zb [ob] wr (wr.setCell ⟨ob,k,none⟩ (.int .u8 (S.get (k/4)/2 ^ (24-8*(k%4))%256))):=Wd.setCell (.inl Wz) _
        exact⟨⟨k+1,by go_num,Ws,zg HO.o (outK_set S k h32),Ju.o.trans' hst⟩,by simp [intOf];omega⟩
      ·obtain rfl:k=32:=by omega
       clear ho hkq
       rw [outK_all] at HO
       have hsz:((bd S).map bv).toArray.size=32:=by simp [kO]
       go_upto_region 16 with fail
       refine wp_region_list ?_
       change wpList _ _ _ [_,_] _ _
       refine zP Wk (.tmp 8) Wk HO.o (kO S) Wk ?_
       refine zq Wk (.tmp 2) (.tmp 62) Wk (g:=w.heap.size) (l:=bd S) Mq.o (zJ _ _) (kO S) Wk Wk ?_
       intro WF hF hkF
       have hres:=zR.var hF (kO S)
       try simp only [zA,zN,zB,zC,zD]
       have Mr:=qI hkF
       clear hkF hF
       go_wp2_with fail
       refine bodyPost_ret (v:=.agg ((bd S).map bv).toArray) (by simp only [results,results47];simp [hres,Sem.run_bind,asAddr]) rfl ?_
       rw [Jh.o]
       exact⟨rfl,((Mk.o.then Jk.o).trans Ju.o (by have:=Jl.o;intro i hi;simp at hi;subst hi;exact .inr Ws)).trans Mr.o (by intro i hi;simp at hi;subst hi;exact .inr (Nat.le_refl _))⟩
theorem Kx {P:Program}{t:TypeId}(ht:P.underlying t=some .string) (s:ByteArray) (m:Nat) (h:m<s.data.toList.length) (W:World):(Instr.index t (.string s) (.int .u8 m)).run P W = .ok (.int .u8 s.data.toList[m].toNat) W:=by
 rw [run_index_string _ t s .u8 m ht,dif_pos ⟨Ws,by simp only [Array.length_toList] at h;have:s.data.size=s.size:=rfl;omega⟩]
 rfl
theorem digits_at (m:Nat) (h:m<16):∃ h2:m<(⟨#[48,49,50,51,52,53,54,55,56,57,97,98,99,100,101,102]⟩:ByteArray).data.toList.length,(⟨#[48,49,50,51,52,53,54,55,56,57,97,98,99,100,101,102]⟩:ByteArray).data.toList[m]=qy m:=by
 refine⟨h,?_⟩
 have:∀ q:Fin 16,(⟨#[48,49,50,51,52,53,54,55,56,57,97,98,99,100,101,102]⟩:ByteArray).data.toList[q.val]'q.isLt=qy q.val:=Wo
 exact this ⟨m,h⟩
theorem YZ {w:World}{a:Option Addr}{c:Nat}{l:List UInt8}(hb:zp w (.slice a l.length c) l) (hl:l.length≤1000000) :
  CL w 51 #[.slice a l.length c] (.string (qp l)):=by
 obtain⟨N,HN⟩:∃ N,Hid (N=l.length):=⟨_,qI rfl⟩
 have HB:=qI hb
 have Gb:=qI hl
 have hnI:(N:Int)≤1000000:=by have:=HN.o;omega
 rw [← HN.o] at Gb ⊢
 clear hb hl
 go_enter func51,ntmps51
 go_wp2_with fail
 go_loopw [3,4] (fun out i wr=>∃ (k m:Nat) (a3:Option Addr) (c3:Nat),i = .int .i64 k∧k≤N∧Hid (m=2*k)∧out = .slice a3 m c3∧wr.ownsRow w.heap.size 5 1 (.slice a3 m c3) m ((kQ (l.take k)).map bv)∧zb [] w wr) (fun _ i _=>N-(intOf i).toNat)
 case atStart=>exact⟨0,0,none,0,rfl,Nat.zero_le _,qI rfl,rfl,World.ownsRow_nil _ _ _ _,Wd⟩
 case round=>
  obtain⟨k,m,a3,c3,rfl,hk,HM,rfl,hrow,hkr⟩:=hrel
  have Ga:=qI hrow
  have Gd:=qI hkr
  clear hrow hkr
  by_cases hlt:k<N
  ·have hltI:(k:Int)<N:=by omega
   have Jv:Hid ((k:Int)<N):=qI hltI
   have hka:k<l.length:=by rw [← HN.o];exact hlt
   obtain⟨g,o,rfl,q0⟩:=zp.at (w:=wr) (l:=l) (c:=c) (a:=a) (Slc.kept0 HB.o Gd.o) hka
   have HZ:Hid (kQ (l.take (k+1))=kQ (l.take k)++[qy (l[k].toNat/16),qy (l[k].toNat%16)]):=qI (by rw [List.take_succ_eq_append_getElem hka,hexL_snoc,List.append_assoc];rfl)
   have Gm:Hid (l[k].toNat<256):=qI l[k].toNat_lt
   revert q0 HZ Gm
   generalize l[k].toNat=b
   intro q0 HZ Gm
   clear hka
   obtain⟨h1,e1⟩:=digits_at (b/16) (by have:=Gm.o;omega)
   obtain⟨h2,e2⟩:=digits_at (b%16) Ws
   have i1:=Kx underlying9 _ _ h1
   have i2:=Kx underlying9 _ _ h2
   rw [e1] at i1
   rw [e2] at i2
   obtain⟨y,Gx⟩:∃ y:Int,Hid (y=(b:Int)):=⟨_,qI rfl⟩
   obtain⟨hi,HH⟩:∃ hi:Int,Hid (hi=((b/16:Nat):Int)):=⟨_,qI rfl⟩
   obtain⟨lo,HL⟩:∃ lo:Int,Hid (lo=((b%16:Nat):Int)):=⟨_,qI rfl⟩
   obtain⟨xh,Jw⟩:∃ xh:Int,Hid (xh=(qy (b/16)).toNat):=⟨_,qI rfl⟩
   obtain⟨xl,Jx⟩:∃ xl:Int,Hid (xl=(qy (b%16)).toNat):=⟨_,qI rfl⟩
   rw [← HH.o,← Jw.o] at i1
   rw [← HL.o,← Jx.o] at i2
   rw [← Gx.o] at q0
   have IH:=qI i1
   have IL:=qI i2
   have HQ:=qI q0
   have HY:Hid (0≤y∧y<256):=qI (by have:=Gx.o;have:=Gm.o;omega)
   have Ms:Hid (y/16=hi):=qI (by have:=Gx.o;have:=HH.o;omega)
   have Mt:Hid (y%16=lo):=qI (by have:=Gx.o;have:=HL.o;omega)
   have Gz:Hid ([Value.int .u8 xh,.int .u8 xl]=[qy (b/16),qy (b%16)].map bv):=qI (by rw [Jw.o,Jx.o];rfl)
   have Gj:=qI hlt
   clear i1 i2 q0 h1 h2 e1 e2 hlt
   go_upto_region 5 with fail
   refine vZ (n:=28) 14 [fI (.slice a3 m c3),
    fI (.slice (some ⟨g,o,none⟩) N c),
    fI (.int .i64 k),
    fI (.pointer (some ⟨g,o+k,none⟩)),
    fI (.int .u8 y),
    fI (.int .u8 hi),
    fI (.int .u8 xh),
    fI (.slice (some ⟨g,o,none⟩) N c),
    fI (.int .i64 k),
    fI (.pointer (some ⟨g,o+k,none⟩)),
    fI (.int .u8 y),
    fI (.int .u8 lo),
    fI (.int .u8 xl),
    xD [.int .u8 xh,.int .u8 xl] 2 1] Wr rfl Wr (fun x=>yH) (fun x hx=>by rw [show x 15 = .slice a3 m c3 from hx 15 Wo Wo]) ?_ ?_
   ·refine⟨?_,?_,?_,?_,?_,?_,?_,?_,?_,?_,?_,?_,?_,?_,trivial⟩ <;> intro x w2 hkw b hd
    ·exact ze
    ·exact ze
    ·exact ze
    ·have d1:x 1=_:=hd 1 Wr
     have d2:x 2=_:=hd 2 Wr
     have hkI:=Jv.o
     exact ze
    ·have d3:x 3=_:=hd 3 Wr
     have y0:=hkw.cell HQ.o Wz
     exact ze
    ·have d4:x 4=_:=hd 4 Wr
     have hy0:=HY.o.1
     have hy1:=HY.o.2
     go_wp2_with fail
     exact⟨congrArg (Value.int .u8) Ms.o,Wd⟩
    ·have d5:x 5=_:=hd 5 Wr
     have hix:=IH.o w2
     exact ze
    ·exact ze
    ·exact ze
    ·have d7:x 7=_:=hd 7 Wr
     have d8:x 8=_:=hd 8 Wr
     have hkI:=Jv.o
     exact ze
    ·have d9:x 9=_:=hd 9 Wr
     have y0:=hkw.cell HQ.o Wz
     exact ze
    ·have d10:x 10=_:=hd 10 Wr
     have hy0:=HY.o.1
     have hy1:=HY.o.2
     go_wp2_with fail
     exact⟨congrArg (Value.int .u8) Mt.o,Wd⟩
    ·have d11:x 11=_:=hd 11 Wr
     have hix:=IL.o w2
     exact ze
    ·have d6:x 6=_:=hd 6 Wr
     have d12:x 12=_:=hd 12 Wr
     go_wp2_with fail
     exact⟨⟨w2.heap.size,rfl,Nat.le_refl _,Wz,zT w2 [.int .u8 xh,.int .u8 xl] 1 2 _ _ rfl rfl Wo⟩,Wd.alloc _⟩
   ·intro x w7 hkw b7 hd hwin
    have d0:x 0=_:=hd 0 Wo
    obtain⟨g9,d13,-,-,hsl⟩:=hd 13 Wo
    have Jd:=qI hsl
    have Gl:=qI hkw
    clear hd hwin hkw hsl
    change wpList _ _ _ [_,_] _ _
    go_wp2_with (at_builtin;refine zk vI (v:=.slice a3 m c3) (n:=m) (zo Ga.o Gl.o Wz) Jd.o (by simp [Value.oneCell']) (by simp only [maxLen];have:=Gb.o;have:=HM.o;have:=Gj.o;omega) (by have:=Gb.o;have:=HM.o;have:=Gj.o;omega) (by have:=Gd.o.size;have:=Gl.o.size;omega) rfl _ _ rfl d0 d13 ?_;intro v5 w8 hown hk5 _ hb5;obtain⟨a5,c5,rfl,-,-⟩:=(Slc.of_row hown).form;have Gg:=qI hown;have Ge:=qI hk5;clear hown hk5 hb5)
    case roundEnd=>
     refine⟨⟨k+1,m+2,a5,c5,by go_num,by have:=Gj.o;omega,qI (by have:=HM.o;omega),rfl,?_,(Gd.o.then Gl.o).trans Ge.o (fun i hi=>.inr (Ga.o.lt i (Option.mem_toList.1 hi)).1)⟩,by have:=Gj.o;simp [intOf];omega⟩
     have h9:=Gg.o
     rw [Gz.o,← List.map_append,← HZ.o] at h9
     exact h9
  ·obtain rfl:k=N:=by omega
   have hge:¬ k<k:=Ws
   have hrow:=Ga.o
   rw [List.take_of_length_le (by have:=HN.o;omega)] at hrow
   have hsl:=Slc.of_row hrow
   have hmm:m=(kQ l).length:=by rw [vA,HM.o,HN.o]
   rw [hmm] at hsl
   have htr:(convert 53 9 (.slice a3 m c3)).run Tryz.prog wr = .ok (.string (qp l)) wr:=by rw [hmm];exact zp.toStr (l:=kQ l) hsl
   clear hrow hsl hmm
   go_wp2_with fail
   go_ret
   exact⟨rfl,Gd.o⟩
theorem vg (b:Int) (h0:-9223372036854775808≤b) (h1:b≤9223372036854775807) (w:World):Calls Tryz.prog 85 #[.int .i64 b] w fun e w'=>e = .returned (.bool (yv b))∧w=w':=by
 have HB:Hid (yv b=(decide (8≤b)&&(decide (b≤256)&&decide (b%8=0)))):=qI rfl
 by_cases k1:8≤b
 ·have d1:decide (8≤b)=true:=decide_eq_true k1
  by_cases k2:b≤256
  ·have d2:decide (b≤256)=true:=decide_eq_true k2
   by_cases k3:b%8=0
   all_goals
    go_enter func85,ntmps85
    go_wp2_with fail
    go_ret
    exact⟨by rw [HB.o,d1,d2];simp [k3],rfl⟩
  ·have d2:decide (b≤256)=false:=decide_eq_false k2
   go_enter func85,ntmps85
   go_wp2_with fail
   go_ret
   exact⟨by rw [HB.o,d1,d2];rfl,rfl⟩
 ·have d1:decide (8≤b)=false:=decide_eq_false k1
  go_enter func85,ntmps85
  go_wp2_with fail
  go_ret
  exact⟨by rw [HB.o,d1];rfl,rfl⟩
theorem jk (k:zY) (hb:qX k.bits) (w:World):CL w 46 #[.agg (ye k)] (.bool (zI k)):=by
 have HM:Hid (zI k=(yv k.bits&&(decide (0≤k.height)&&decide (k.height≤6)))):=qI rfl
 obtain⟨W0,Gc⟩:∃ W0,Hid (W0=w.alloc (.cells (ye k) 47)):=⟨_,qI rfl⟩
 have Gk:Hid (zb [] w W0):=qI (kA1 Gc.o)
 have HA:Hid (yw W0 w.heap.size k):=qI (by rw [Gc.o];exact zd rfl)
 have CL:=qI (fun w1:World=>vg k.bits hb.1 hb.2 w1)
 have c0:=HA.o.c0
 have c1:=HA.o.c1
 revert HM CL
 generalize yv k.bits=r
 intro HM CL
 cases r with
 | false=>
  go_enter func46,ntmps46
  go_upto_region 1 with fail
  rw [← Gc.o]
  go_wp2_with (go_at_call 85;refine (CL.o _).mono ?_;rintro e w2 ⟨rfl,rfl⟩)
  go_ret
  exact⟨by rw [HM.o];rfl,Gk.o⟩
 | true=>
  by_cases k1:0≤k.height
  ·have d1:decide (0≤k.height)=true:=decide_eq_true k1
   go_enter func46,ntmps46
   go_upto_region 1 with fail
   rw [← Gc.o]
   go_wp2_with (go_at_call 85;refine (CL.o _).mono ?_;rintro e w2 ⟨rfl,rfl⟩)
   go_ret
   exact⟨by rw [HM.o,d1];rfl,Gk.o⟩
  ·have d1:decide (0≤k.height)=false:=decide_eq_false k1
   go_enter func46,ntmps46
   go_upto_region 1 with fail
   rw [← Gc.o]
   go_wp2_with (go_at_call 85;refine (CL.o _).mono ?_;rintro e w2 ⟨rfl,rfl⟩)
   go_ret
   exact⟨by rw [HM.o,d1];rfl,Gk.o⟩
end Go.Proofs.YtibnfbglanpoiaaGreatDoor

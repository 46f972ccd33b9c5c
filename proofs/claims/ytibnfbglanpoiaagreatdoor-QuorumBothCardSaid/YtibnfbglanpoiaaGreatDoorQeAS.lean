/- Parts of one proof, merged: XFG. -/
import Derived.Test.YtibnfbglanpoiaaGreatDoorQeAC
import Derived.Test.YtibnfbglanpoiaaGreatDoorQeW
set_option linter.all false
set_option maxHeartbeats 12800000
set_option maxRecDepth 100000
namespace Go.Proofs.YtibnfbglanpoiaaGreatDoor
open Go.Proofs.Tryz
open Go.RowKit
def vD (x:List UInt8) (k:Nat):List UInt8:=(List.range 32).map (fun i=>if i<k then x.getD i 0 else 0)
theorem vC (x:List UInt8) (k:Nat):(vD x k).length=32:=by simp [vD]
theorem Ky {x:List UInt8}(h:x.length=32):vD x 32=x:=by
 apply List.ext_getElem
 ·rw [vC,h]
 ·intro i h1 h2
  have h3:i<32:=Ws
  simp [vD,h3,List.getD,h2]
theorem Kz (x:List UInt8) (k:Nat) (hk:k<32) (v:Value) (hv:v=bv (x.getD k 0)):((vD x k).map bv).toArray.setIfInBounds k v=((vD x (k+1)).map bv).toArray:=by
 rw [hv,List.setIfInBounds_toArray]
 congr 1
 apply List.ext_getElem
 ·simp [vD]
 ·intro i h1 h2
  rw [List.getElem_set]
  by_cases e:k=i
  ·subst e;simp [vD]
  ·rw [if_neg e]
   simp only [vD,List.getElem_map,List.getElem_range]
   congr 1
   by_cases h:i<k
   ·rw [if_pos h,if_pos Ws]
   ·rw [if_neg h,if_neg Ws]
theorem Qx {w:World}{g:Nat}{x:List UInt8}{k:Nat}(h:zR w g (vD x k)) (j:Nat) (hj:j<32):w.cell? ⟨g,j,none⟩=some (bv ((vD x k)[j]'(by rw [vC];exact hj))):=za h (by rw [List.getElem?_toArray,List.getElem?_map,List.getElem?_eq_getElem (by rw [vC];exact hj)];rfl)
theorem ck_rows (l:List UInt8) (N:Nat):(List.range N).map (ckA l)=(jD N l).rev∧(List.range N).map (ckB l)=(jD N l).oth:=by
 refine⟨?_,?_⟩
 ·unfold jD vy ckA;simp only [List.map_map];rfl
 ·unfold jD vy ckB;simp only [List.map_map];rfl
theorem KH {α:Type}(f:Nat→α) (k:Nat):(List.range (k+1)).map f=(List.range k).map f++[f k]:=by
 rw [List.range_succ,List.map_append];rfl
theorem refDec07_any {w:World}{a:Option Addr}{c N:Nat}{l:List UInt8}(hb:zp w (.slice a l.length c) l) (hN:l.length=64*N) (hmb:yv N=true) :
  Calls Tryz.prog 158 #[.slice a l.length c] w fun e w'=>(∃ a1 c1 a2 c2,e = .returned (.tuple #[.agg #[.slice a1 N c1,.slice a2 N c2],.int .i64 0])∧Slc w' 32 (.slice a1 N c1) N ((jD N l).rev.flatten.map bv)∧Slc w' 32 (.slice a2 N c2) N ((jD N l).oth.flatten.map bv)∧(∀ g,zW (.slice a1 N c1)=some g→w.heap.size≤g)∧(∀ g,zW (.slice a2 N c2)=some g→w.heap.size≤g))∧zb [] w w':=by
 have hn8:8≤N∧N≤256:=by
  unfold yv at hmb
  simp only [Bool.and_eq_true,decide_eq_true_eq] at hmb
  omega
 obtain⟨bk,off,rfl,-,hrow⟩:=xy (size:=1) hb Ws
 obtain⟨W1,Gf⟩:∃ W1,Hid (W1=w.alloc (.cells #[.slice none 0 0,.slice none 0 0] 80)):=⟨_,qI rfl⟩
 have Gs:Hid (zb [] w W1):=qI (kA1 Gf.o)
 have Jg:Hid (W1.heap[w.heap.size]? = some (.cells #[.slice none 0 0,.slice none 0 0] 80 (0,0))):=qI (by rw [Gf.o];exact zd rfl)
 have hS1:W1.heap.size=w.heap.size+1:=by rw [Gf.o];simp
 have CM:Hid (Calls Tryz.prog 85 #[.int .i64 N] W1 fun e w'=>e = .returned (.bool true)∧W1=w'):=qI (by have h1:=vg N Ws Ws W1;rw [hmb] at h1;exact h1)
 obtain⟨W3,Gt⟩:∃ W3,Hid (W3=W1.alloc (.cells #[.slice none 0 0,.slice none 0 0] 80)):=⟨_,qI rfl⟩
 have Gu:Hid (qW W1 W1.heap.size W3 none 0 none 0 [] []):=qI (by rw [Gt.o];exact out_new W1)
 have Gl:=qI (hrow.kept Gs.o Wz)
 have Jh:Hid (bk<w.heap.size):=qI hrow.lt
 have HN:=qI hN
 have Gv:=qI hn8
 have hq1:((l.length:Int)%64)=0:=Ws
 have hq2:((l.length:Int)/64)=(N:Int):=Ws
 have hq3:(l.length:Int)≤16384:=Ws
 have Gw:=qI hS1
 clear hb hrow hmb
 go_enter func158,ntmps158
 generalize hL:l.length=L at hq1 hq2 hq3
 have Gm:=qI hL
 clear hL hN
 go_upto_region 1 with fail
 rw [← Gf.o]
 go_upto_region 4 with (go_at_call 85;refine CM.o.mono ?_;rintro e w' ⟨rfl,rfl⟩)
 rw [← Gt.o]
 rw [hS1] at Gu
 clear hS1 hq1 hq2
 go_wp2_with fail
 go_loopw [5,6,7,8] (fun iv _ _ _ wr=>∃ (k:Nat) (a1:Option Addr) (c1:Nat) (a2:Option Addr) (c2:Nat),iv = .int .i64 ((64*k:Nat):Int)∧k≤N∧Hid (qW W1 (w.heap.size+1) wr a1 c1 a2 c2 ((List.range k).map (ckA l)) ((List.range k).map (ckB l)))) (fun iv _ _ _ _=>64*N-(intOf iv).toNat)
 case atStart=>exact⟨0,none,0,none,0,rfl,Nat.zero_le _,Gu⟩
 case round=>
  obtain⟨k,a1,c1,a2,c2,rfl,hk,HO⟩:=hrel
  obtain⟨I,hI⟩:∃ I,I=64*k:=⟨_,rfl⟩
  rw [← hI]
  have HI:=qI hI
  rcases Nat.lt_or_ge k N with hlt | hge
  ·have hIL:(I:Int)<L:=by have:=Gm.o;have:=HN.o;omega
   have hII:(I:Int)≤16384:=by have:=Gv.o;omega
   have Gn:=qI hlt
   have hrl:=(Gl.o.kept HO.o.kept Wz)
   have hlI:I+64≤L:=by have:=Gm.o;have:=HN.o;omega
   have Gx:=qI hlI
   obtain⟨A,hA⟩:∃ A,A=ckA l k:=⟨_,rfl⟩
   obtain⟨B,hB⟩:∃ B,B=ckB l k:=⟨_,rfl⟩
   have Gb:Hid (A.length=32∧B.length=32):=qI (by rw [hA,hB];exact ck_len HN.o hlt)
   have Gy:Hid (wr.rangeAt bk (off+I) (A.map bv)∧wr.rangeAt bk (off+I+32) (B.map bv)):=qI (by rw [hA,hB,hI];exact ck_row hrl HN.o hlt)
   have Gg:Hid ((List.range (k+1)).map (ckA l)=(List.range k).map (ckA l)++[A]∧(List.range (k+1)).map (ckB l)=(List.range k).map (ckB l)++[B]):=qI (by rw [hA,hB];exact⟨KH _ _,KH _ _⟩)
   have Ga:Hid (((List.range k).map (ckA l)).length=k∧((List.range k).map (ckB l)).length=k):=qI Wz
   generalize (List.range k).map (ckA l)=rv at HO Gg Ga
   generalize (List.range k).map (ckB l)=ov at HO Gg Ga
   clear hA hB hlt hrl hlI hI hk
   go_upto_region 8 with fail
   obtain⟨W5,Gh⟩:∃ W5,Hid (W5=(wr.alloc (.cells z32 45)).alloc (.cells z32 45)):=⟨_,qI rfl⟩
   have Ji:Hid (zb [] wr W5):=qI (kA2 Gh.o)
   have Gz:Hid (zR W5 wr.heap.size (vD A 0)):=qI (by rw [Gh.o];exact ((zb.refl [] _).alloc _).heap (zd rfl) Wz)
   have Ja:Hid (zR W5 (wr.heap.size+1) (vD B 0)):=qI (by rw [Gh.o];exact zd Wz)
   refine yq Gh.o ?_
   generalize hpx:wr.heap.size=px at Gz Ja ⊢
   have Gc:=qI hpx
   clear hpx
   have Jb:Hid (bk<px∧w.heap.size+1<px):=qI (by have:=Gc.o;have:=HO.o.kept.size;have:=Gw.o;have:=Jh.o;have:=HO.o.lt;omega)
   go_wp2_with fail
   go_loopw [8] (fun kv wq=>∃ j:Nat,kv = .int .i64 j∧j≤32∧Hid (zR wq px (vD A j))∧Hid (zR wq (px+1) (vD B j))∧Hid (zb [px,px+1] W5 wq)) (fun kv _=>32-(intOf kv).toNat)
   case atStart=>exact⟨0,rfl,Nat.zero_le _,Gz,Ja,qI Wd⟩
   case round=>
    obtain⟨j,rfl,hj,HX,HY,Jc⟩:=hrel
    have Gd:=qI (Ji.o.trans Jc.o (by have:=Gc.o;intro i hi;simp at hi;rcases hi with rfl | rfl <;> exact .inr Ws))
    rcases Nat.lt_or_ge j 32 with h32 | h32
    ·have h32I:(j:Int)<32:=by omega
     have hi1:(I:Int)+j<L:=by have:=Gx.o;omega
     have hi2:(I:Int)+32+j<L:=by have:=Gx.o;omega
     have ca:wr.cell? ⟨bk,off+(I+j),none⟩=some (bv (A.getD j 0)):=Gd.o.cell (by
      have h9:=Gy.o.1 j (bv (A.getD j 0)) (by rw [List.getElem?_map,List.getD,List.getElem?_eq_getElem (by rw [Gb.o.1];exact h32)];rfl)
      rw [Nat.add_assoc] at h9;exact h9) Wz
     have cb:wr.cell? ⟨bk,off+(I+32+j),none⟩=some (bv (B.getD j 0)):=Gd.o.cell (by
      have h9:=Gy.o.2 j (bv (B.getD j 0)) (by rw [List.getElem?_map,List.getD,List.getElem?_eq_getElem (by rw [Gb.o.2];exact h32)];rfl)
      rw [Nat.add_assoc,Nat.add_assoc,← Nat.add_assoc I] at h9;exact h9) Wz
     have xa:=Qx HX.o j h32
     have xb:=Qx HY.o j h32
     have fa:=zh (o:=j) HX.o
     have fb:=zh (o:=j) HY.o
     have Jd:Hid (Value.int .u8 (A.getD j 0).toNat=bv (A.getD j 0)):=qI rfl
     have Je:Hid (Value.int .u8 (B.getD j 0).toNat=bv (B.getD j 0)):=qI rfl
     unfold bv at ca cb xa xb
     generalize (A.getD j 0).toNat=va at ca Jd
     generalize (B.getD j 0).toNat=vb at cb Je
     generalize ((vD A j)[j]'(by rw [vC];exact h32)).toNat=ya at xa
     generalize ((vD B j)[j]'(by rw [vC];exact h32)).toNat=yb at xb
     have H3:=qI h32
     have hbp:bk≠px∧bk≠px+1:=by have:=Jb.o;omega
     obtain⟨hb1,hb2⟩:=hbp
     clear h32 hj
     go_upto_region 11 with fail
     go_region
     all_goals go_wp2_with fail
     all_goals
      have k1:zb [px] wr (wr.setCell ⟨px,j,none⟩ (.int .u8 va)):=Wd.setCell (.inl Wz) _
      have k2:zb [px+1] (wr.setCell ⟨px,j,none⟩ (.int .u8 va)) ((wr.setCell ⟨px,j,none⟩ (.int .u8 va)).setCell ⟨px+1,j,none⟩ (.int .u8 vb)):=Wd.setCell (.inl Wz) _
      exact⟨⟨j+1,by go_num,by have:=H3.o;omega,qI (k2.heap (zg HX.o (Kz A j H3.o _ Jd.o)) Wz),qI (zg (k1.heap HY.o Wz) (Kz B j H3.o _ Je.o)),qI ((Jc.o.trans' (k1.mono (Y:=[px,px+1]) Wz)).trans' (k2.mono (Y:=[px,px+1]) Wz)).drew⟩,by have:=H3.o;simp [intOf];omega⟩
    ·obtain rfl:j=32:=by omega
     rw [Ky Gb.o.1] at HX
     rw [Ky Gb.o.2] at HY
     have Gi:=qI (HO.o.kept0 Gd.o)
     have f0:=za (o:=0) Gi.o.box rfl
     rw [Ga.o.1] at f0
     have Gp:Hid (∀ ob,(wr.alloc ob).ownsRow W1.heap.size 45 32 (.slice a1 k c1) k (rv.flatten.map bv)):=qI (fun ob=>by have h9:=(Gi.o.kept0 ((zb.refl [] _).alloc ob)).rev;rw [Ga.o.1] at h9;exact h9)
     have Jj:Hid (∀ b,(Value.slice a1 k c1).ownBlock=some b→b<px):=qI (fun b hb=>by have h9:=HO.o.rev;rw [Ga.o.1] at h9;have:=(h9.lt b hb).2;have:=Gc.o;omega)
     have Gj:Hid (k+1≤256):=qI (by have:=Gv.o;have:=Gn.o;omega)
     clear h32 hj
     go_upto_region 13 with first
      | (refine zP Wk (.tmp 6) Wk HX.o Gb.o.1 Wk ?_)
      | (refine yB underlying73 xU jx Wo Wo Wk _ rfl (cs:=A.map bv) (by simp [Gb.o.1]) Wk ?_)
      | (at_builtin;refine zk YE (base:=W1.heap.size) (v:=.slice a1 k c1) (n:=k) (m:=1) (xs:=rv.flatten.map bv) (news:=A.map bv) (Gp.o _) (zT _ (A.map bv) 32 1 _ _ rfl (by simp [Gb.o.1]) Wo) (yL _) (by have:=Gj.o;simp only [maxLen];omega) (by have:=Gj.o;omega) ((Gi.o.kept0 ((zb.refl [] _).alloc _)).kept.size) rfl _ _ rfl rfl rfl ?_;intro v6 w6 hown hk6 _ hb6;obtain⟨a5,c5,rfl,-,-⟩:=(Slc.of_row hown).form;obtain⟨u0,uf,ho6⟩:=(Gi.o.kept0 ((zb.refl [] _).alloc _)).push0 (x:=A) (a5:=a5) (c5:=c5) (by rw [Ga.o.1];exact hown) (by rw [Ga.o.1];exact hk6) (by rw [Ga.o.1];exact hb6);rw [Ga.o.1] at u0 ho6;have Ge:=qI ho6;have Jf:=qI (((zb.refl [w.heap.size+1] w6).setCell (p:=⟨w.heap.size+1,0,none⟩) (.inl Wz) (.slice a5 (k+1) c5)).heap (hk6.heap (((zb.refl [] _).alloc _).heap HY.o Wz) (fun hx=>by have:=Jj.o _ (Option.mem_toList.1 hx);omega)) (by have:=Jb.o;simp;omega));clear hown hk6 hb6 ho6)
     clear u0 uf f0
     generalize w6.setCell ⟨w.heap.size+1,0,none⟩ (.slice a5 (k+1) c5)=w7 at Ge Jf ⊢
     have f1:=za (o:=1) Ge.o.box rfl
     rw [Ga.o.2] at f1
     have Gq:Hid (∀ ob,(w7.alloc ob).ownsRow W1.heap.size 45 32 (.slice a2 k c2) k (ov.flatten.map bv)):=qI (fun ob=>by have h9:=(Ge.o.kept0 ((zb.refl [] _).alloc ob)).oth;rw [Ga.o.2] at h9;exact h9)
     go_wp2_with first
      | (refine zP Wk (.tmp 7) Wk Jf.o Gb.o.2 Wk ?_)
      | (refine yB underlying73 xU jx Wo Wo Wk _ rfl (cs:=B.map bv) (by simp [Gb.o.2]) Wk ?_)
      | (at_builtin;refine zk YE (base:=W1.heap.size) (v:=.slice a2 k c2) (n:=k) (m:=1) (xs:=ov.flatten.map bv) (news:=B.map bv) (Gq.o _) (zT _ (B.map bv) 32 1 _ _ rfl (by simp [Gb.o.2]) Wo) (yL _) (by have:=Gj.o;simp only [maxLen];omega) (by have:=Gj.o;omega) ((Ge.o.kept0 ((zb.refl [] _).alloc _)).kept.size) rfl _ _ rfl rfl rfl ?_;intro v8 w8 hown hk8 _ hb8;obtain⟨a6,c6,rfl,-,-⟩:=(Slc.of_row hown).form;obtain⟨u1,ug,ho8⟩:=(Ge.o.kept0 ((zb.refl [] _).alloc _)).push1 (x:=B) (a5:=a6) (c5:=c6) (by rw [Ga.o.2];exact hown) (by rw [Ga.o.2];exact hk8) (by rw [Ga.o.2];exact hb8);rw [Ga.o.2] at u1 ho8;have Jk:=qI ho8;clear hown hk8 hb8 ho8 f1)
     case roundEnd=>
      exact⟨⟨k+1,a5,c5,a6,c6,by have:=HI.o;congr 1;push_cast;omega,Gn.o,qI (by rw [Gg.o.1,Gg.o.2];exact Jk.o)⟩,by have:=HI.o;have:=Gn.o;simp [intOf];omega⟩
  ·obtain rfl:k=N:=by omega
   have hIL:(I:Int)=L:=by have:=Gm.o;have:=HN.o;omega
   have hILn:¬ ((I:Int)<L):=Ws
   rw [(ck_rows l k).1,(ck_rows l k).2] at HO
   obtain⟨hl1,hl2⟩:=Y6 k l
   have f0:=za (o:=0) HO.o.box rfl
   have f1:=za (o:=1) HO.o.box rfl
   rw [hl1] at f0
   rw [hl2] at f1
   have Gk:=qI (HO.o.kept.heap Jg.o Wz)
   have r0:=za (o:=0) Gk.o rfl
   have r1:=za (o:=1) Gk.o rfl
   have z:∀ j,wr.frozen? ⟨w.heap.size,j,none⟩=false:=fun j=>zh Gk.o
   clear hk hge hI
   go_wp2_with fail
   change bodyPost _ _ _ _ _ (put2 wr w.heap.size (.slice a1 k c1) (.slice a2 k c2))
   have Gd:=jQ wr w.heap.size (.slice a1 k c1) (.slice a2 k c2)
   have Gr:=Kp Gk.o (.slice a1 k c1) (.slice a2 k c2)
   generalize put2 wr w.heap.size (.slice a1 k c1) (.slice a2 k c2)=WF at Gd Gr
   have y0:=za (o:=0) Gr rfl
   have y1:=za (o:=1) Gr rfl
   have e1:=HO.o.rev
   have e2:=HO.o.oth
   rw [hl1] at e1
   rw [hl2] at e2
   have hr:∀ {v:Value}{xs:List Value},wr.ownsRow W1.heap.size 45 32 v k xs→Slc WF 32 v k xs∧∀ g,v.ownBlock=some g→w.heap.size≤g:=fun {v xs} h=>by
    have:=Gw.o
    refine⟨Slc.of_row (zo h Gd (fun g hg hx=>by have h3:=(h.lt g hg).1;simp at hx;omega)),fun g hg=>?_⟩
    have:=(h.lt g hg).1
    omega
   refine bodyPost_ret (v:=.tuple #[.agg #[.slice a1 k c1,.slice a2 k c2],.int .i64 0]) (by simp [results,results158,go_sem,y0,y1]) rfl ⟨⟨a1,c1,a2,c2,rfl,(by rw [← List.map_flatten];exact (hr e1).1),(by rw [← List.map_flatten];exact (hr e2).1),fun g hg=>(hr e1).2 g (z6 hg),fun g hg=>(hr e2).2 g (z6 hg)⟩,?_⟩
   exact (Gs.o.then HO.o.kept).trans Gd (by intro i hi;simp at hi;subst hi;exact .inr (Nat.le_refl _))
end Go.Proofs.YtibnfbglanpoiaaGreatDoor

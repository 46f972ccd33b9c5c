/- Parts of one proof, merged: XCK XCL XCM XCN. -/
import Derived.Test.YtibnfbglanpoiaaGreatDoorQeAA
import Derived.Laws.BitsAllLaws
import Derived.Deep.QuietTactic
set_option linter.all false
set_option maxHeartbeats 12800000
set_option maxRecDepth 10000
namespace Go.Proofs.YtibnfbglanpoiaaGreatDoor
open Go.Proofs.Tryz
open Go.RowKit
theorem KY (w:World) (l r:List UInt8) (hl:l.length=32) (hr:r.length=32) (hks:xN w) :
  CL w 145 #[.agg (l.map bv).toArray,.agg (r.map bv).toArray] (.agg ((yO l r).map bv).toArray):=by
 obtain⟨W1,Gc⟩:∃ W1,Hid (W1=((w.alloc (.cells (l.map bv).toArray 45)).alloc (.cells (r.map bv).toArray 45)).alloc (.cells z32 45)):=⟨_,qI rfl⟩
 have Gj:Hid (zb [] w W1):=qI (kA3 Gc.o)
 have Gv:Hid (zR W1 w.heap.size l):=qI (by rw [Gc.o];exact (((zb.refl [] _).alloc _).alloc _).heap (zd rfl) Wz)
 have Gw:Hid (zR W1 (w.heap.size+1) r):=qI (by rw [Gc.o];exact ((zb.refl [] _).alloc _).heap (zd Wz) Wz)
 have Gs:Hid (zR W1 (w.heap.size+2) (xe zu 0)):=qI (by rw [Gc.o];exact zd Wz)
 have CT:Hid (∀ w2,zb [] W1 w2→∀ g9,Slc w2 1 (.slice (some ⟨g9,0,none⟩) 2 2) 2 [.slice (some ⟨w.heap.size,0,none⟩) 32 32,.slice (some ⟨w.heap.size+1,0,none⟩) 32 32]→Calls Tryz.prog 104 #[.string ⟨#[109,101,114,107,108,101,32,110,111,100,101]⟩,.slice (some ⟨g9,0,none⟩) 2 2] w2 fun e w'=>e = .returned (.agg ((yO l r).map bv).toArray)∧zb [] w2 w'):=qI (fun w2 hk g9 hsl=>by
  have hbl:zp w2 (.slice (some ⟨w.heap.size,0,none⟩) 32 32) l:=⟨Wz,.inr (.inr ⟨_,0,32,by rw [hl],Ws,Wo,⟨(Gv.o.kept0 hk).range,(Gv.o.kept0 hk).lt⟩⟩)⟩
  have hbr:zp w2 (.slice (some ⟨w.heap.size+1,0,none⟩) 32 32) r:=⟨Wz,.inr (.inr ⟨_,0,32,by rw [hr],Ws,Wo,⟨(Gw.o.kept0 hk).range,(Gw.o.kept0 hk).lt⟩⟩)⟩
  exact JC ⟨#[109,101,114,107,108,101,32,110,111,100,101]⟩ w2 (some ⟨g9,0,none⟩) 2 [.slice (some ⟨w.heap.size,0,none⟩) 32 32,.slice (some ⟨w.heap.size+1,0,none⟩) 32 32] [l,r] hsl (zH.cons (R:=zp _) hbl (zH.cons (R:=zp _) hbr (zH.nil _))) (fun x hx=>by
   simp only [List.mem_cons,List.not_mem_nil,or_false] at hx
   rcases hx with rfl | rfl <;> omega) Wo (Nat.le_of_ble_eq_true rfl) ((hks.kept0 Gj.o).kept0 hk))
 have Gf:Hid ((yO l r).length=32):=qI (yP l r)
 clear hl hr hks
 go_enter func145,ntmps145
 go_upto_region 1 with fail
 refine yq Gc.o ?_
 refine zK (n:=9) 4 [fI (.slice (some ⟨w.heap.size,0,none⟩) 32 32),
  fI (.slice (some ⟨w.heap.size+1,0,none⟩) 32 32),
  xD [.slice (some ⟨w.heap.size,0,none⟩) 32 32,.slice (some ⟨w.heap.size+1,0,none⟩) 32 32] 2 1,
  fI (.agg ((yO l r).map bv).toArray)] Wr rfl Wr (fun x=>yH) ?_ ?_
 ·refine⟨?_,?_,?_,?_,trivial⟩ <;> intro x w2 hkw b hd
  ·exact ze
  ·exact ze
  ·have d0:x 0=_:=hd 0 Wr
   have d1:x 1=_:=hd 1 Wr
   go_wp2_with fail
   exact⟨⟨w2.heap.size,rfl,Nat.le_refl _,Wz,zT w2 [.slice (some ⟨w.heap.size,0,none⟩) 32 32,.slice (some ⟨w.heap.size+1,0,none⟩) 32 32] 1 2 _ _ rfl rfl Wo⟩,Wd.alloc _⟩
  ·obtain⟨g9,d2,-,-,hsl⟩:=hd 2 Wr
   have CX:=CT.o w2 hkw g9 hsl
   clear hsl
   go_wp2_with (go_at_call 104;refine CX.mh ?_;rintro e w5 rfl Gd)
   exact⟨rfl,Gd.o⟩
 ·intro x w7 hkw b7 hd hwin
  have d3:x 3=_:=hd 3 Wo
  have Jd:=qI hkw
  have Je:=qI (Gs.o.kept0 hkw)
  clear hd hwin hkw
  change wpList _ _ _ [_] _ _
  refine zq Wk (.tmp 4) (.tmp 8) Wk Je.o (zJ _ _) Gf.o Wk d3 ?_
  intro w5 h5 hk5
  refine wpList_nil ?_
  go_wp2_with fail
  have hres:=h5.var Gf.o
  refine bodyPost_ret (v:=.agg ((yO l r).map bv).toArray) (by simp only [results,results145];simp [hres,Sem.run_bind,asAddr,Act.put]) rfl ⟨rfl,?_⟩
  exact (Gj.o.then Jd.o).trans hk5 (by intro i hi;simp at hi;subst hi;exact .inr Ws)
theorem climb_any {w:World}{x:List UInt8}(hx:x.length=32) (i:Nat) (hi:i≤1073741824) {way:List (List UInt8)}(h32:yC way) {a:Option Addr}{c n:Nat}(hn:way.length=n) (hn6:n≤6) (hs:Slc w 32 (.slice a n c) n (way.flatten.map bv)) (hks:xN w) :
  Calls Tryz.prog 138 #[.agg (x.map bv).toArray,.int .i64 i,.slice a n c] w fun e w'=>((i<2 ^ n∧e = .returned (.tuple #[.agg ((xQ x i way).map bv).toArray,.int .i64 0]))∨(¬ i<2 ^ n∧e = .returned (.tuple #[.agg z32,.int .i64 1])))∧zb [] w w':=by
 obtain⟨W1,Gc⟩:∃ W1,Hid (W1=(w.alloc (.cells (x.map bv).toArray 45)).alloc (.cells z32 45)):=⟨_,qI rfl⟩
 have Gj:Hid (zb [] w W1):=qI (kA2 Gc.o)
 have Jf:Hid (zR W1 w.heap.size x):=qI (by rw [Gc.o];exact ((zb.refl [] _).alloc _).heap (zd rfl) Wz)
 have Gs:Hid (zR W1 (w.heap.size+1) (xe zu 0)):=qI (by rw [Gc.o];exact zd Wz)
 have Jg:=qI (hs.kept0 Gj.o)
 have Jh:Hid (∀ g,zW (.slice a n c)=some g→g<w.heap.size):=qI (fun g h=>hs.lt h)
 have Gx:=qI (hks.kept0 Gj.o)
 have Gy:Hid (0 ∉ [w.heap.size]):=qI (by have:=ZX hks;simp;omega)
 have hiI:(i:Int)≤1073741824:=Ws
 have hnI:(n:Int)≤6:=Ws
 have H32:=qI h32
 have HN:=qI hn
 have hw2:wrap64 ((2:Int) ^ n)=(2:Int) ^ n:=by
  have:n=0∨n=1∨n=2∨n=3∨n=4∨n=5∨n=6:=Ws
  rcases this with rfl | rfl | rfl | rfl | rfl | rfl | rfl <;> decide +kernel
 have Ji:=qI hx
 clear h32 hn hs hks hx
 have hq1:decide ((6:Int)<(n:Int))=false:=decide_eq_false Ws
 have Jj:=Gj
 rcases Nat.lt_or_ge i (2 ^ n) with hlt | hlt
 rotate_left
 ·have hq2:decide ((2:Int) ^ n≤(i:Int))=true:=decide_eq_true (by exact_mod_cast hlt)
  go_enter func138,ntmps138
  go_upto_region 1 with fail
  refine yq Gc.o ?_
  go_wp2_with (refine zq Wk (.tmp 6) (.tmp 24) Wk (l:=List.replicate 32 0) Gs.o (zJ _ _) Wk Wk Wk ?_;intro w5 h5 hk5;have H5:=qI h5;have Gd:=qI hk5;clear h5 hk5)
  have hres:=H5.o.var Wk
  refine bodyPost_ret (v:=.tuple #[.agg z32,.int .i64 1]) (by simp only [results,results138];simp [hres,Sem.run_bind,asAddr,Act.put];rfl) rfl ⟨.inr ⟨Ws,rfl⟩,?_⟩
  exact Gj.o.trans Gd.o (by intro i hi;simp at hi;subst hi;exact .inr Ws)
 have hq2:decide ((2:Int) ^ n≤(i:Int))=false:=by
  have h1:(i:Int)<(2:Int) ^ n:=by exact_mod_cast hlt
  exact decide_eq_false (Int.not_le.2 h1)
 have Gm:=qI hlt
 have Jk:=qI hi
 clear hi hlt
 go_enter func138,ntmps138
 go_upto_region 1 with fail
 refine yq Gc.o ?_
 go_wp2_with fail
 go_loopw [1,9,27] (fun iv _ idx wr=>∃ (k j:Nat) (y:List UInt8),iv = .int .i64 j∧idx = .int .i64 k∧k≤n∧j≤1073741824∧y.length=32∧zR wr w.heap.size y∧xQ x i way=xQ y j (way.drop k)∧zb [w.heap.size] W1 wr) (fun _ _ idx _=>n-(intOf idx).toNat)
 case atStart=>exact⟨0,i,x,rfl,rfl,Nat.zero_le _,Jk.o,Ji.o,Jf.o,rfl,Wd⟩
 case round=>
  obtain⟨k,j,y,rfl,rfl,hk,hj,hy,hs32,hcl,hkr⟩:=hrel
  have HY:=qI hy
  have Gr:=qI hs32
  have Gz:=qI hcl
  have Gb:=qI hkr
  have HJ:=qI hj
  have hjI:(j:Int)≤1073741824:=Ws
  clear hy hs32 hcl hkr hj hq1 hq2 hw2
  rcases Nat.lt_or_ge k n with hlt | hlt
  ·have hltI:(k:Int)<n:=by omega
   obtain⟨g,o,rfl,-,hrow⟩:=xy Jg.o Ws
   have hkw:k<way.length:=by rw [HN.o];exact hlt
   have Gg:Hid (w.heap.size≠g):=qI (fun e=>by have h1:=Jh.o g (ji Ws);omega)
   have Ja:Hid (wr.rangeAt g (o+k*32) (way[k].map bv)):=qI (Qk (hrow.kept Gb.o (by simp;exact fun e=>Gg.o e.symm)) H32.o k hkw)
   have Gn:Hid (way[k].length=32):=qI (H32.o _ (List.getElem_mem _))
   have Ge:Hid (xQ x i way=xQ (if j%2=0 then yO y way[k] else yO way[k] y) (j/2) (way.drop (k+1))):=qI (by
    rw [Gz.o,List.drop_eq_getElem_cons hkw];rfl)
   generalize way[k]=z at Ja Gn Ge
   have Gi:=qI hlt
   clear hkw hlt hrow
   go_upto_region 6 with first
    | (refine zS Wk _ rfl (g:=g) (of:=o+k*32) Ja.o Gn.o Wk ?_)
    | (refine zq Wk (.tmp 9) (.tmp 30) Wk (g:=wr.heap.size) (l0:=xe zu 0) (zd rfl) (zJ _ _) Gn.o Wk Wk ?_;intro w4 h4 hk4;have Jb:=qI h4;have Gk:Hid (zb [] wr w4):=qI (((zb.refl [] wr).alloc _).trans hk4 (by intro i hi;simp at hi;subst hi;exact .inr (Nat.le_refl _)));clear h4 hk4;simp only [Act.put])
   have hj2:j%2=0∨j%2=1:=Ws
   rcases hj2 with h2 | h2
   ·rw [if_pos h2] at Ge
    have h2I:(j:Int)%2=0:=Ws
    clear h2
    have CN:Hid (Cz w4 145 #[.agg (y.map bv).toArray,.agg (z.map bv).toArray] (.agg ((yO y z).map bv).toArray)):=qI (KY w4 y z HY.o Gn.o ((Gx.o.keptX Gb.o Gy.o).kept0 Gk.o))
    have Gf:Hid ((yO y z).length=32):=qI (yP _ _)
    generalize yO y z=nd at CN Gf Ge
    go_wp2_with first
     | (refine zP Wk (.tmp 3) Wk (Gr.o.kept0 Gk.o) HY.o Wk ?_)
     | (refine zP Wk (.tmp 9) Wk Jb.o Gn.o Wk ?_)
     | (go_at_call 145;refine CN.o.mh ?_;rintro e w5 rfl Gd)
     | (refine zq Wk (.tmp 3) (.tmp 36) Wk (Gr.o.kept0 (Gk.o.then Gd.o)) HY.o Gf.o Wk Wk ?_;intro w6 h6 hk6;have H6:=qI h6;have Gt:=qI hk6;clear h6 hk6)
    case roundEnd=>exact⟨⟨k+1,j/2,nd,by go_num,by go_num,by have:=Gi.o;omega,by have:=HJ.o;omega,Gf.o,H6.o,Ge.o,(Gb.o.then (Gk.o.then Gd.o)).trans' Gt.o⟩,by have:=Gi.o;simp [intOf];omega⟩
   ·rw [if_neg Ws] at Ge
    have h2I:(j:Int)%2=1:=Ws
    clear h2
    have CN:Hid (Cz w4 145 #[.agg (z.map bv).toArray,.agg (y.map bv).toArray] (.agg ((yO z y).map bv).toArray)):=qI (KY w4 z y Gn.o HY.o ((Gx.o.keptX Gb.o Gy.o).kept0 Gk.o))
    have Gf:Hid ((yO z y).length=32):=qI (yP _ _)
    generalize yO z y=nd at CN Gf Ge
    go_wp2_with first
     | (refine zP Wk (.tmp 3) Wk (Gr.o.kept0 Gk.o) HY.o Wk ?_)
     | (refine zP Wk (.tmp 9) Wk Jb.o Gn.o Wk ?_)
     | (go_at_call 145;refine CN.o.mh ?_;rintro e w5 rfl Gd)
     | (refine zq Wk (.tmp 3) (.tmp 39) Wk (Gr.o.kept0 (Gk.o.then Gd.o)) HY.o Gf.o Wk Wk ?_;intro w6 h6 hk6;have H6:=qI h6;have Gt:=qI hk6;clear h6 hk6)
    case roundEnd=>exact⟨⟨k+1,j/2,nd,by go_num,by go_num,by have:=Gi.o;omega,by have:=HJ.o;omega,Gf.o,H6.o,Ge.o,(Gb.o.then (Gk.o.then Gd.o)).trans' Gt.o⟩,by have:=Gi.o;simp [intOf];omega⟩
  ·obtain rfl:k=n:=by omega
   have Jl:Hid (xQ x i way=y):=qI (by rw [Gz.o,← HN.o,List.drop_length];rfl)
   have Jm:=qI (Gs.o.kept Gb.o Wz)
   go_wp2_with first
    | (refine zP Wk (.tmp 3) Wk Gr.o HY.o Wk ?_)
    | (refine zq Wk (.tmp 6) (.tmp 43) Wk Jm.o (zJ _ _) HY.o Wk Wk ?_;intro w5 h5 hk5;have H5:=qI h5;have Gd:=qI hk5;clear h5 hk5)
   have hres:=H5.o.var HY.o
   refine bodyPost_ret (v:=.tuple #[.agg (y.map bv).toArray,.int .i64 0]) (by simp only [results,results138];simp [hres,Sem.run_bind,asAddr,Act.put]) rfl ⟨.inl ⟨Gm.o,by rw [Jl.o]⟩,?_⟩
   exact (Gj.o.trans Gb.o (by intro i hi;simp at hi;subst hi;exact .inr (Nat.le_refl _))).trans Gd.o (by intro i hi;simp at hi;subst hi;exact .inr Ws)
theorem xor_zero_iff (a b:Nat):a ^^^ b=0↔a=b:=by
 refine⟨fun h=>?_,fun h=>by rw [h,Nat.xor_self]⟩
 have h1:(a ^^^ b) ^^^ b=a:=by rw [Nat.xor_assoc,Nat.xor_self,Nat.xor_zero]
 rw [h,Nat.zero_xor] at h1
 exact h1.symm
theorem take_eq_snoc {l m:List UInt8}{k:Nat}(hl:k<l.length) (hm:k<m.length):l.take (k+1)=m.take (k+1)↔l.take k=m.take k∧l[k]=m[k]:=by
 rw [List.take_succ_eq_append_getElem hl,List.take_succ_eq_append_getElem hm]
 constructor
 ·intro h
  have h2:=List.append_inj' h rfl
  exact⟨h2.1,by simpa using h2.2⟩
 ·rintro ⟨h1,h2⟩
  rw [h1,h2]
theorem octSame_any {w:World}{ga oa ca gb ob cb:Nat}{l m:List UInt8}(hl:l.length=32) (hm:m.length=32) (ha:w.rangeAt ga oa (l.map bv)) (hb:w.rangeAt gb ob (m.map bv)) :
  CL w 139 #[.slice (some ⟨ga,oa,none⟩) 32 ca,.slice (some ⟨gb,ob,none⟩) 32 cb] (.bool (decide (l=m))):=by
 have HL:=qI hl
 have HM:=qI hm
 have HA:=qI ha
 have HB:=qI hb
 clear hl hm ha hb
 go_enter func139,ntmps139
 go_wp2_with fail
 go_loopw [5,6,14] (fun ov _ i wr=>∃ k o:Nat,ov = .int .u8 o∧i = .int .i64 k∧k≤32∧o<256∧(o=0↔l.take k=m.take k)∧zb [] w wr) (fun _ _ i _=>32-(intOf i).toNat)
 case atStart=>exact⟨0,0,rfl,rfl,Nat.zero_le _,Wo,Wz,Wd⟩
 case round=>
  obtain⟨k,o,rfl,rfl,hk,ho,hoo,hkr⟩:=hrel
  have HO:=qI ho
  have Jc:=qI hoo
  have Gb:=qI hkr
  clear ho hoo hkr
  rcases Nat.lt_or_ge k 32 with h32 | h32
  ·have hkI:(k:Int)<32:=by omega
   have hkl:k<l.length:=by rw [HL.o];exact h32
   have hkm:k<m.length:=by rw [HM.o];exact h32
   have c0:wr.cell? ⟨ga,oa+k,none⟩=some (.int .u8 l[k].toNat):=Gb.o.cell (HA.o k _ (by rw [List.getElem?_map,List.getElem?_eq_getElem hkl];rfl)) Wz
   have c1:wr.cell? ⟨gb,ob+k,none⟩=some (.int .u8 m[k].toNat):=Gb.o.cell (HB.o k _ (by rw [List.getElem?_map,List.getElem?_eq_getElem hkm];rfl)) Wz
   have HT:=qI (take_eq_snoc hkl hkm)
   have hx:=u8_xor_nat l[k].toNat m[k].toNat (UInt8.toNat_lt _) (UInt8.toNat_lt _)
   have hlt:l[k].toNat ^^^ m[k].toNat<256:=Nat.xor_lt_two_pow (n:=8) (UInt8.toNat_lt _) (UInt8.toNat_lt _)
   have hor:=u8_or_nat o (l[k].toNat ^^^ m[k].toNat) HO.o hlt
   have Gm:Hid (o ||| (l[k].toNat ^^^ m[k].toNat)<256):=qI (Nat.or_lt_two_pow (n:=8) HO.o hlt)
   have HE:Hid (o ||| (l[k].toNat ^^^ m[k].toNat)=0↔l.take (k+1)=m.take (k+1)):=qI (by
    rw [Nat.or_eq_zero_iff,xor_zero_iff,UInt8.toNat_inj,HT.o,Jc.o])
   have HZ:=qI h32
   generalize l[k].toNat=p at c0 hx hor Gm HE
   generalize m[k].toNat=q at c1 hx hor Gm HE
   generalize p ^^^ q=s at hx hor Gm HE
   generalize o ||| s=t at hor Gm HE
   clear hlt h32 HT
   clear hkl hkm
   go_wp2_with fail
   go_quiet (fail)
   go_wp2_with fail
   case roundEnd=>exact⟨⟨k+1,t,by go_num,by go_num,by have:=HZ.o;omega,Gm.o,HE.o,Gb.o.drewN _⟩,by have:=HZ.o;simp [intOf];omega⟩
  ·obtain rfl:k=32:=by omega
   have HD:Hid (decide (l=m)=decide (o=0)):=qI (by
    have h1:=Jc.o
    rw [List.take_of_length_le (by rw [HL.o];omega),List.take_of_length_le (by rw [HM.o];omega)] at h1
    by_cases h2:o=0
    ·rw [decide_eq_true h2,decide_eq_true (h1.1 h2)]
    ·rw [decide_eq_false h2,decide_eq_false (fun e=>h2 (h1.2 e))])
   go_wp2_with fail
   go_ret
   refine⟨?_,Gb.o⟩
   rw [HD.o]
   by_cases h0:o=0
   ·subst h0;simp
   ·have h1:(o:Int)≠0:=by omega
    simp [h0]
structure jH (w:World) (p:Nat) (l:List UInt8) (bad:Bool):Prop where
 val:∃ a c,w.heap[p]? = some (.cells #[.slice a l.length c,.bool bad] 218 (0,0))∧zp w (.slice a l.length c) l∧∀ g,zW (.slice a l.length c)=some g→g≠p
theorem jH.kept0 {w w':World}{p:Nat}{l:List UInt8}{bad:Bool}(h:jH w p l bad) (k:zb [] w w'):jH w' p l bad:=by
 obtain⟨a,c,h1,h2,h3⟩:=h.val
 exact⟨a,c,k.heap h1 Wz,h2.kept0 k,h3⟩
theorem jH.lt {w:World}{p:Nat}{l:List UInt8}{bad:Bool}(h:jH w p l bad):p<w.heap.size:=by
 obtain⟨a,c,h1,-,-⟩:=h.val
 exact lt_of_block h1
theorem from_any {w:World}{a:Option Addr}{c:Nat}{l:List UInt8}(hb:zp w (.slice a l.length c) l) (hl:l.length≤lim) :
  Calls Tryz.prog 131 #[.slice a l.length c] w fun e w'=>(∃ p,w.heap.size≤p∧e = .returned (.pointer (some ⟨p,0,none⟩))∧jH w' p l false)∧zb [] w w':=by
 have CC:=qI (vh _ _ w hb hl)
 clear hb hl
 go_enter func131,ntmps131
 generalize hn:l.length=n at CC
 go_wp2_with (go_at_call 36;refine CC.o.mono ?_;rintro e w2 ⟨v,rfl,hnb,hk2⟩;obtain⟨a2,c2,rfl,-,-⟩:=hnb.1.form;have Gl:=qI hnb;have Ga:=qI hk2;clear hnb hk2)
 go_ret
 have hka:=(zb.refl [] w2).alloc (.cells #[.slice a2 n c2,.bool false] 218)
 subst hn
 refine⟨⟨w2.heap.size,Ga.o.size,rfl,⟨a2,c2,zd rfl,Gl.o.1.kept0 hka,fun g hg=>?_⟩⟩,Ga.o.then hka⟩
 have:=Gl.o.1.lt hg
 omega
theorem YP {w:World}{p:Nat}{l:List UInt8}{bad:Bool}(h:jH w p l bad) :
  Calls Tryz.prog 171 #[.pointer (some ⟨p,0,none⟩)] w fun e w'=>e = .returned (.int .i64 l.length)∧w=w':=by
 obtain⟨a,c,h1,-,-⟩:=h.val
 have c0:=za (o:=0) h1 rfl
 clear h h1
 go_enter func171,ntmps171
 go_wp2_with fail
 go_ret
 exact⟨rfl,rfl⟩
theorem rdBad_any {w:World}{p:Nat}{l:List UInt8}{bad:Bool}(h:jH w p l bad) :
  Calls Tryz.prog 173 #[.pointer (some ⟨p,0,none⟩)] w fun e w'=>e = .returned (.bool bad)∧w=w':=by
 obtain⟨a,c,h1,-,-⟩:=h.val
 have c1:=za (o:=1) h1 rfl
 clear h h1
 go_enter func173,ntmps173
 go_wp2_with fail
 go_ret
 exact⟨rfl,rfl⟩
theorem QQ {w:World}{p:Nat}{l:List UInt8}{bad:Bool}(h:jH w p l bad) :
  Calls Tryz.prog 172 #[.pointer (some ⟨p,0,none⟩)] w fun e w'=>e = .returned (.tuple #[])∧jH w' p [] true∧zb [p] w w':=by
 obtain⟨a,c,h1,-,-⟩:=h.val
 have c0:=za (o:=0) h1 rfl
 have c1:=za (o:=1) h1 rfl
 have f:=fun o=>zh (o:=o) h1
 have H1:=qI h1
 clear h h1
 go_enter func172,ntmps172
 go_wp2_with fail
 go_end0
 have h2:=zg (i:=0) (v:=.slice none 0 0) (d:=#[.slice none 0 0,.bool bad]) H1.o rfl
 have h3:=zg (i:=1) (v:=.bool true) (d:=#[.slice none 0 0,.bool true]) h2 rfl
 exact⟨rfl,⟨none,0,h3,yV _ _,fun g hg=>by simp [zW] at hg⟩,((zb.refl [p] w).setCell (.inl Wz) _).setCell (.inl Wz) _⟩
theorem rdDone_any {w:World}{p:Nat}{l:List UInt8}{bad:Bool}(h:jH w p l bad) :
  Calls Tryz.prog 134 #[.pointer (some ⟨p,0,none⟩)] w fun e w'=>e = .returned (.int .i64 (if bad=false∧l=[] then 0 else 11))∧w=w':=by
 have CL:=qI (YP h)
 have CB:=qI (rdBad_any h)
 have HL:Hid (l=[]↔l.length=0):=qI (by rw [List.length_eq_zero_iff])
 generalize l.length=n at CL HL
 clear h
 generalize hd:(if bad=false∧l=[] then (0:Int) else 11)=D
 have HD:=qI hd
 clear hd
 cases bad with
 | true=>
  go_enter func134,ntmps134
  go_wp2_with (go_at_call 173;refine CB.o.mono ?_;rintro e w' ⟨rfl,rfl⟩)
  go_ret
  exact⟨by rw [← HD.o];simp,rfl⟩
 | false=>
  by_cases hn:n=0
  ·have hl:l=[]:=HL.o.2 hn
   subst hn
   go_enter func134,ntmps134
   go_wp2_with first
    | (go_at_call 173;refine CB.o.mono ?_;rintro e w' ⟨rfl,rfl⟩)
    | (go_at_call 171;refine CL.o.mono ?_;rintro e w' ⟨rfl,rfl⟩)
   go_ret
   exact⟨by rw [← HD.o];simp [hl],rfl⟩
  ·have hl:¬ l=[]:=fun e=>hn (HL.o.1 e)
   have hnI:(0:Int)<n:=Ws
   go_enter func134,ntmps134
   go_wp2_with first
    | (go_at_call 173;refine CB.o.mono ?_;rintro e w' ⟨rfl,rfl⟩)
    | (go_at_call 171;refine CL.o.mono ?_;rintro e w' ⟨rfl,rfl⟩)
   go_ret
   exact⟨by rw [← HD.o];simp [hl],rfl⟩
def rdB (n:Nat) (l:List UInt8) (bad:Bool):List UInt8×List UInt8×Bool:=if n≤l.length∧bad=false then (l.take n,l.drop n,false) else ([],[],true)
theorem zp.tail2 {w:World}{a:Option Addr}{c:Nat}{l:List UInt8}(h:zp w (.slice a l.length c) l) (k:Nat) (hk:k≤l.length) (hc:c≠k):zp w (.slice (a.map fun x=>x.add k) (l.length-k) (c-k)) (l.drop k)∧∀ g,zW (.slice (a.map fun x=>x.add k) (l.length-k) (c-k))=some g→zW (.slice a l.length c)=some g:=by
 have h1:=h.tail k hk
 rw [if_neg hc] at h1
 rcases Nat.eq_zero_or_pos (l.length - k) with h0 | h0
 ·refine⟨?_,fun g hg=>by rw [h0] at hg;simp [zW] at hg⟩
  have h2:=h1.1
  unfold zp at h2 ⊢
  rw [List.length_drop,h0] at h2 ⊢
  have hm:c-k≤maxLen:=by
   obtain⟨a',c',h3,-,h4⟩:=h2.form
   simp only [Value.slice.injEq] at h3
   omega
  refine⟨h2.1,?_⟩
  cases a with
  | none=>
   rcases h2.2 with h3 | ⟨-,a',cap,h3,-⟩ | ⟨g,o,cap,h3,-⟩
   ·exact .inl h3
   ·simp at h3
   ·simp at h3
  | some x=>exact .inr (.inl ⟨rfl,_,_,rfl,hm⟩)
 ·obtain⟨g,o,rfl,-,-⟩:=xy h Ws
  have e:(some (⟨g,o,none⟩:Addr)).map (fun x=>x.add k)=(some (⟨g,o,none⟩:Addr)).map fun x=>⟨x.block,x.off+k,none⟩:=by simp [bw]
  rw [e]
  exact h1
theorem rdB_end {w w2:World}{p n c cc:Nat}{a ta a2:Option Addr}{c2:Nat}{l:List UInt8}(h1:w.heap[p]? = some (.cells #[.slice a l.length c,.bool false] 218 (0,0))) (ht:zp w (.slice ta (l.length-n) cc) (l.drop n)) (hg:∀ g,zW (.slice ta (l.length-n) cc)=some g→g≠p) (hnb:qe w w2 (.slice a2 n c2) (l.take n)) (hk:zb [] w w2) :
  zp (w2.setCell ⟨p,0,none⟩ (.slice ta (l.length-n) cc)) (.slice a2 n c2) (l.take n)∧(∀ g,zW (.slice a2 n c2)=some g→w.heap.size≤g)∧jH (w2.setCell ⟨p,0,none⟩ (.slice ta (l.length-n) cc)) p (l.drop n) false∧zb [p] w (w2.setCell ⟨p,0,none⟩ (.slice ta (l.length-n) cc)):=by
 have hst:zb [p] w2 (w2.setCell ⟨p,0,none⟩ (.slice ta (l.length-n) cc)):=Wd.setCell (.inl Wz) _
 have hp2:=lt_of_block h1
 have hdl:(l.drop n).length=l.length-n:=List.length_drop
 refine⟨hnb.1.kept hst (fun g hg hx=>?_),fun g hg=>(hnb.2 g hg).1,⟨ta,cc,?_,?_,?_⟩,(hk.mono Wz).trans' hst⟩
 ·have:=(hnb.2 g hg).1
  simp at hx
  omega
 ·rw [hdl];exact zg (hk.heap h1 Wz) rfl
 ·rw [hdl]
  exact (ht.kept0 hk).kept hst (fun g h hx=>by simp at hx;exact hg g h hx)
 ·intro g h
  rw [hdl] at h
  exact hg g h
theorem Zr {w:World}{p:Nat}{l:List UInt8}{bad:Bool}(h:jH w p l bad) (n:Nat) (hn:n≤1000000) (hll:l.length≤lim) :
  Calls Tryz.prog 133 #[.pointer (some ⟨p,0,none⟩),.int .i64 n] w fun e w'=>(∃ a c,e = .returned (.slice a (rdB n l bad).1.length c)∧zp w' (.slice a (rdB n l bad).1.length c) (rdB n l bad).1∧(∀ g,zW (.slice a (rdB n l bad).1.length c)=some g→w.heap.size≤g))∧jH w' p (rdB n l bad).2.1 (rdB n l bad).2.2∧zb [p] w w':=by
 have CL:=qI (YP h)
 have CB:=qI (rdBad_any h)
 have CS:=qI (QQ h)
 obtain⟨a,c,h1,h2,h3⟩:=h.val
 have hnI:(n:Int)≤1000000:=Ws
 by_cases hok:n≤l.length∧bad=false
 ·obtain⟨hnl,rfl⟩:=hok
  have Gg:Hid (rdB n l false=(l.take n,l.drop n,false)):=qI (by unfold rdB;rw [if_pos ⟨hnl,rfl⟩])
  have Gh:Hid ((l.take n).length=n):=qI (by rw [List.length_take];omega)
  have CC:Hid (Calls Tryz.prog 36 #[.slice a n c] w fun e w'=>∃ v',e = .returned v'∧qe w w' v' (l.take n)∧zb [] w w'):=qI (vh _ _ w (h2.head n hnl) (by have:=Gh.o;omega))
  have hcap:=h2.capL
  have hnlI:(n:Int)≤l.length:=Ws
  have H1:=qI h1
  have c0:=za (o:=0) h1 rfl
  have hncI:(n:Int)≤(c:Int):=Ws
  have hlcI:(l.length:Int)≤(c:Int):=Ws
  by_cases hcn:c=n
  ·obtain⟨t1,t2⟩:=h2.tail n hnl
   rw [if_pos hcn] at t1 t2
   have HE:=qI (fun w2 a2 c2 hnb hk=>rdB_end (w2:=w2) (a2:=a2) (c2:=c2) h1 t1 (fun g h=>h3 g (t2 g h)) hnb hk)
   have hcn':=hcn.symm
   clear h h1 h2 h3 t1 t2 hcn
   subst hcn'
   go_enter func133,ntmps133
   go_wp2_with first
    | (go_at_call 171;refine CL.o.mono ?_;rintro e w' ⟨rfl,rfl⟩)
    | (go_at_call 173;refine CB.o.mono ?_;rintro e w' ⟨rfl,rfl⟩)
    | (go_at_call 36;refine CC.o.mono ?_;rintro e w2 ⟨v,rfl,hnb,hk2⟩;obtain⟨a2,c2,rfl,-,-⟩:=hnb.1.form;rw [Gh.o] at hnb ⊢;have Gp:=qI (hk2.heap H1.o Wz);have u0:=za (o:=0) Gp.o rfl;have uf:=zh (o:=0) Gp.o;have Gl:=qI hnb;have Ga:=qI hk2;clear hnb hk2)
   go_ret
   have h9:=HE.o _ _ _ Gl.o Ga.o
   have hz:l.length-n=0:=Ws
   rw [hz,Nat.sub_self] at h9
   rw [Gg.o]
   dsimp only
   rw [Gh.o]
   exact⟨⟨_,_,rfl,h9.1,h9.2.1⟩,h9.2.2⟩
  ·obtain⟨t1,t2⟩:=h2.tail2 n hnl hcn
   have HE:=qI (fun w2 a2 c2 hnb hk=>rdB_end (w2:=w2) (a2:=a2) (c2:=c2) h1 t1 (fun g h=>h3 g (t2 g h)) hnb hk)
   clear h h1 h2 h3 t1 t2
   go_enter func133,ntmps133
   go_wp2_with first
    | (go_at_call 171;refine CL.o.mono ?_;rintro e w' ⟨rfl,rfl⟩)
    | (go_at_call 173;refine CB.o.mono ?_;rintro e w' ⟨rfl,rfl⟩)
    | (go_at_call 36;refine CC.o.mono ?_;rintro e w2 ⟨v,rfl,hnb,hk2⟩;obtain⟨a2,c2,rfl,-,-⟩:=hnb.1.form;rw [Gh.o] at hnb ⊢;have Gp:=qI (hk2.heap H1.o Wz);have u0:=za (o:=0) Gp.o rfl;have uf:=zh (o:=0) Gp.o;have Gl:=qI hnb;have Ga:=qI hk2;clear hnb hk2)
   go_ret
   have h9:=HE.o _ _ _ Gl.o Ga.o
   rw [Gg.o]
   dsimp only
   rw [Gh.o]
   exact⟨⟨_,_,rfl,h9.1,h9.2.1⟩,h9.2.2⟩
 ·have Gg:Hid (rdB n l bad=([],[],true)):=qI (by unfold rdB;rw [if_neg hok])
  have CS2:Hid (Calls Tryz.prog 172 #[.pointer (some ⟨p,0,none⟩)] w fun e w'=>e = .returned (.tuple #[])∧jH w' p [] true∧zb [p] w w'):=CS
  by_cases hnl:n≤l.length
  ·have hbt:bad=true:=by
    cases bad with
    | true=>rfl
    | false=>exact absurd ⟨hnl,rfl⟩ hok
   subst hbt
   have hnlI:(n:Int)≤l.length:=Ws
   clear h1 h2 h3 h hok CS
   generalize l.length=L at CL hnlI hll
   go_enter func133,ntmps133
   go_wp2_with first
    | (go_at_call 171;refine CL.o.mono ?_;rintro e w' ⟨rfl,rfl⟩)
    | (go_at_call 173;refine CB.o.mono ?_;rintro e w' ⟨rfl,rfl⟩)
    | (go_at_call 172;refine CS2.o.mono ?_;rintro e w2 ⟨rfl,hr2,hk2⟩;have Gq:=qI hr2;have Ga:=qI hk2;clear hr2 hk2)
   go_ret
   rw [Gg.o]
   exact⟨⟨none,0,rfl,yV _ _,fun g hg=>by simp [zW] at hg⟩,Gq.o,Ga.o⟩
  ·have hnlI:¬ ((n:Int)≤l.length):=by omega
   have hnlJ:(l.length:Int)<n:=Ws
   clear h1 h2 h3 h hok CS
   generalize l.length=L at CL hnlI hnlJ hll
   go_enter func133,ntmps133
   go_wp2_with first
    | (go_at_call 171;refine CL.o.mono ?_;rintro e w' ⟨rfl,rfl⟩)
    | (go_at_call 172;refine CS2.o.mono ?_;rintro e w2 ⟨rfl,hr2,hk2⟩;have Gq:=qI hr2;have Ga:=qI hk2;clear hr2 hk2)
   go_ret
   rw [Gg.o]
   exact⟨⟨none,0,rfl,yV _ _,fun g hg=>by simp [zW] at hg⟩,Gq.o,Ga.o⟩
theorem numF_lt:∀ (l:List UInt8) (n:Nat),l.foldl (fun n c=>n*256+c.toNat) n<(n+1)*256 ^ l.length
 | [],n=>by simp
 | c::t,n=>by
  have h1:=numF_lt t (n*256+c.toNat)
  have h2:=UInt8.toNat_lt c
  rw [List.foldl_cons,List.length_cons,Nat.pow_succ,Nat.mul_comm (256 ^ t.length) 256,← Nat.mul_assoc]
  exact Nat.lt_of_lt_of_le h1 (Nat.mul_le_mul_right _ Ws)
theorem Kl (l:List UInt8):jG l<256 ^ l.length:=by
 have h:=numF_lt l 0
 rw [Nat.zero_add,Nat.one_mul] at h
 exact h
theorem or_byte (n c:Nat) (hn:n<16777216) (hc:c<256):bits .or .i64 ((n:Int)*256) (c:Int)=((n*256+c:Nat):Int):=by
 rw [bits_join .i64 32 Wo (fun n h0 h1=>by rw [IntKind.wrap_i64];omega) 8 _ _ Ws Ws Ws Ws Ws Ws]
 omega
def rdN (l:List UInt8):Nat×List UInt8×Bool:=if 4≤l.length then (jG (l.take 4),l.drop 4,false) else (0,[],true)
theorem rdInt_any {w:World}{p:Nat}{l:List UInt8}(h:jH w p l false) (hll:l.length≤lim) :
  Calls Tryz.prog 132 #[.pointer (some ⟨p,0,none⟩),.int .i64 4] w fun e w'=>e = .returned (.int .i64 (rdN l).1)∧jH w' p (rdN l).2.1 (rdN l).2.2∧zb [p] w w':=by
 have CL:=qI (YP h)
 have CS:=qI (QQ h)
 have CB:=qI (Zr h 4 Wo hll)
 have hlm:l.length≤140737488351232:=hll
 rcases Nat.lt_or_ge l.length 4 with h4 | h4
 ·have Gu:Hid (rdN l=(0,[],true)):=qI (by unfold rdN;rw [if_neg Ws])
  have h4I:(l.length:Int)<4:=Ws
  clear h hll CB h4
  generalize l.length=L at CL h4I hlm
  go_enter func132,ntmps132
  go_wp2_with first
   | (go_at_call 171;refine CL.o.mono ?_;rintro e w' ⟨rfl,rfl⟩)
   | (go_at_call 172;refine CS.o.mono ?_;rintro e w2 ⟨rfl,hr2,hk2⟩;have Gq:=qI hr2;have Ga:=qI hk2;clear hr2 hk2)
  go_ret
  rw [Gu.o]
  exact⟨rfl,Gq.o,Ga.o⟩
 ·have Gu:Hid (rdN l=(jG (l.take 4),l.drop 4,false)):=qI (by unfold rdN;rw [if_pos Ws])
  have Gg:rdB 4 l false=(l.take 4,l.drop 4,false):=by unfold rdB;rw [if_pos ⟨h4,rfl⟩]
  have Gh:Hid ((l.take 4).length=4):=qI (by rw [List.length_take];omega)
  rw [Gg] at CB
  have h4I:(4:Int)≤(l.length:Int):=Ws
  clear h hll h4 Gg CS
  generalize hL:l.length=L at CL h4I hlm
  clear hL
  go_enter func132,ntmps132
  go_wp2_with first
   | (go_at_call 171;refine CL.o.mono ?_;rintro e w' ⟨rfl,rfl⟩)
   | (go_at_call 133;refine CB.o.mono ?_;rintro e w2 ⟨⟨a2,c2,rfl,hb2,-⟩,hr2,hk2⟩;dsimp only at hb2 hr2 ⊢;rw [Gh.o] at hb2 ⊢;have Gp:=qI hb2;have Gq:=qI hr2;have Ga:=qI hk2;clear hb2 hr2 hk2)
  go_loopw [5,7,39] (fun nv _ i wr=>∃ k:Nat,nv = .int .i64 (jG ((l.take 4).take k))∧i = .int .i64 k∧k≤4∧wr=w2) (fun _ _ i _=>4-(intOf i).toNat)
  case atStart=>exact⟨0,rfl,rfl,Nat.zero_le _,rfl⟩
  case round=>
   obtain⟨k,rfl,rfl,hk,rfl⟩:=hrel
   rcases Nat.lt_or_ge k 4 with h4 | h4
   ·have hkI:(k:Int)<4:=by omega
    have hkl:k<(l.take 4).length:=by rw [Gh.o];exact h4
    obtain⟨g,o,rfl,hc2,hrow⟩:=xy (size:=1) (n:=4) (by have h9:=Gp.o;unfold zp at h9;rw [Gh.o] at h9;exact h9) Wo
    have c0:=hrow.at (j:=k) (by rw [List.length_map];exact hkl)
    rw [List.getElem_map] at c0
    have Ge:Hid (jG ((l.take 4).take (k+1))=jG ((l.take 4).take k)*256+(l.take 4)[k].toNat):=qI (by
     rw [List.take_succ_eq_append_getElem hkl,numB_snoc])
    have hlt:jG ((l.take 4).take k)<16777216:=by
     have h1:=Kl ((l.take 4).take k)
     rw [List.length_take,Nat.min_eq_left Ws] at h1
     have h2:256 ^ k≤256 ^ 3:=Nat.pow_le_pow_right Wo Ws
     have h3:(256:Nat) ^ 3=16777216:=Wo
     omega
    have hcb:=UInt8.toNat_lt (l.take 4)[k]
    have hor:=or_byte _ _ hlt hcb
    unfold bv at c0
    have HZ:=qI h4
    generalize (l.take 4)[k].toNat=x at c0 Ge hcb hor
    generalize jG ((l.take 4).take k)=y at Ge hlt hor
    clear hkl hrow h4
    go_wp2_with fail
    case roundEnd=>exact⟨⟨k+1,by rw [Ge.o];go_num,by go_num,by have:=HZ.o;omega,trivial⟩,by have:=HZ.o;simp [intOf];omega⟩
   ·obtain rfl:k=4:=by omega
    have HE:Hid ((l.take 4).take 4=l.take 4):=qI (List.take_of_length_le (by rw [Gh.o];decide))
    rw [HE.o]
    generalize hnb:jG (l.take 4)=nb
    have Gl:=qI hnb
    clear hnb
    go_wp2_with fail
    go_ret
    rw [Gu.o]
    exact⟨by rw [Gl.o];rfl,Gq.o,Ga.o⟩
end Go.Proofs.YtibnfbglanpoiaaGreatDoor

/- Parts of one proof, merged: XJH XJI XK3C XBu. -/
import Derived.Test.YtibnfbglanpoiaaGreatDoorQcK
import Derived.Test.YtibnfbglanpoiaaGreatDoorQcI
import Derived.Test.YtibnfbglanpoiaaGreatDoorQcC
import Derived.Laws.BytesArg
import Derived.Lib.UnsafeStr
import Derived.Lib.AppendStr
import Derived.Test.YtibnfbglanpoiaaGreatDoorQcE
set_option linter.all false
set_option maxHeartbeats 12800000
set_option maxRecDepth 10000
set_option linter.unusedVariables false
set_option linter.unusedSimpArgs false
set_option linter.unnecessarySimpa false
namespace Go.Proofs.YtibnfbglanpoiaaGreatDoor
open Go.Proofs.Tryz
open Go.RowKit
theorem bV:∀ (k:Nat) (s:S8) (a b:List UInt8),a.length≤k→ky s (a ++ b)=ky (ky s a).1 ((ky s a).2 ++ b)
 | 0,s,a,b,h=>by
  have:a=[]:=List.eq_nil_of_length_eq_zero (by omega)
  subst this
  rw [jn s [] (by simp)]
 | k + 1,s,a,b,h=>by
  rcases Nat.lt_or_ge a.length 64 with h64 | h64
  ·rw [jn s a h64]
  ·rw [vN s (a ++ b) (by simp;omega),vN s a h64,List.take_append_of_le_length h64,List.drop_append_of_le_length h64]
   exact bV k _ _ _ (by simp;omega)
def YV (r m:Nat):List UInt8:=[128] ++ (List.replicate ((119 - r) % 64) 0 ++ qV (8 * m) 8)
def S8.get (s:S8) (j:Nat):Int:=s.list.getD j 0
def outB (s:S8) (i:Nat):UInt8:=UInt8.ofNat ((s.get (i / 4)) / 2 ^ (24 - 8 * (i % 4)) % 256).toNat
def vw (s:S8):List UInt8:=(List.range 32).map (outB s)
theorem km (s:S8):(vw s).length=32:=by simp [vw]
def zY (l:List UInt8):List UInt8:=vw (ky zw (l ++ YV (l.length % 64) l.length)).1
theorem yn (l:List UInt8):(zY l).length=32:=km _
theorem bv_outB (s:S8) (i:Nat):bv (outB s i) = .int .u8 ((s.get (i / 4)) / 2 ^ (24 - 8 * (i % 4)) % 256):=by
 rw [outB,YI]
 congr 1
 omega
def xy (s:S8) (k:Nat):List UInt8:=(List.range 32).map (fun i=>if i < k then outB s i else 0)
theorem z6 (s:S8) (k:Nat):(xy s k).length=32:=by simp [xy]
theorem outK_all (s:S8):xy s 32=vw s:=by
 apply List.map_congr_left
 intro i hi
 rw [if_pos (List.mem_range.1 hi)]
theorem outK_set (s:S8) (k:Nat) (hk:k < 32):((xy s k).map bv).toArray.setIfInBounds k (.int .u8 ((s.get (k / 4)) / 2 ^ (24 - 8 * (k % 4)) % 256))=((xy s (k + 1)).map bv).toArray:=by
 rw [← bv_outB,List.setIfInBounds_toArray]
 congr 1
 apply List.ext_getElem
 ·simp [xy]
 ·intro i h1 h2
  rw [List.getElem_set]
  by_cases e:k=i
  ·subst e;simp [xy]
  ·rw [if_neg e]
   simp only [xy,List.getElem_map,List.getElem_range]
   congr 1
   by_cases h:i < k
   ·rw [if_pos h,if_pos (by omega)]
   ·rw [if_neg h,if_neg (by omega)]
theorem yv.st {w:World}{p:Nat}{s:S8}{v:Value}{n:Int}(h:yv w p s v n) (j:Nat) (hj:j < 8):w.cell? ⟨p,j,none⟩=some (.int .u32 (s.get j)):=by
 obtain⟨y0,y1,y2,y3,y4,y5,y6,y7,-,-⟩:=h.c
 obtain rfl | rfl | rfl | rfl | rfl | rfl | rfl | rfl:j=0∨j=1∨j=2∨j=3∨j=4∨j=5∨j=6∨j=7:=by omega
 all_goals assumption
def z32:Array Value:=#[.int .u8 0,.int .u8 0,.int .u8 0,.int .u8 0,.int .u8 0,.int .u8 0,.int .u8 0,.int .u8 0,.int .u8 0,.int .u8 0,.int .u8 0,.int .u8 0,.int .u8 0,.int .u8 0,.int .u8 0,.int .u8 0,.int .u8 0,.int .u8 0,.int .u8 0,.int .u8 0,.int .u8 0,.int .u8 0,.int .u8 0,.int .u8 0,.int .u8 0,.int .u8 0,.int .u8 0,.int .u8 0,.int .u8 0,.int .u8 0,.int .u8 0,.int .u8 0]
def yf (w:World) (g:Nat) (l:List UInt8):Prop:=w.heap[g]? = some (.cells (l.map bv).toArray 45 (0,0))
theorem yf.range {w:World}{g:Nat}{l:List UInt8}(h:yf w g l):w.rangeAt g 0 (l.map bv):=fun j v hv=>by
 rw [Nat.zero_add];exact za h (by simpa using hv)
theorem yf.there {w:World}{g:Nat}{l:List UInt8}(h:yf w g l) (n:Nat) (hn:l.length=n):w.there g 0 n:=fun j hj=>by
 rw [Nat.zero_add]
 exact⟨by rw [za (v:=bv (l[j]'(by omega))) h (by rw [List.getElem?_toArray,List.getElem?_map,List.getElem?_eq_getElem (by omega)];rfl)];rfl,zh h⟩
theorem yf.lt {w:World}{g:Nat}{l:List UInt8}(h:yf w g l):g < w.heap.size:=lt_of_block h
theorem yf.put {w:World}{g:Nat}{l l':List UInt8}(h:yf w g l) (hl:l'.length=l.length):yf (w.setCells g 0 (l'.map bv)) g l':=by
 obtain⟨cur,h1,h2,h3⟩:=xx g (l'.map bv) 0 w _ h
 have e:cur=(l'.map bv).toArray:=by
  apply Array.ext
  ·rw [h2];simp [hl]
  ·intro i hi1 hi2
   have hi3:i < l.length:=by rw [h2] at hi1;simpa using hi1
   have h4:=h3 i (by simpa using hi3)
   rw [if_pos (by simp;omega),Array.getElem?_eq_getElem hi1] at h4
   rw [Nat.sub_zero,List.getElem?_eq_getElem (by simp;omega)] at h4
   rw [Option.some.inj h4]
   simp
 unfold yf
 rw [h1,e]
theorem xX:(Tryz.prog.info? 45).map (·.size)=some 32:=by kernel_rfl
theorem one32 (l:List UInt8):(l.map bv).toArray.all (·.oneCell')=true:=all_oneCell_toArray (xu l)
theorem Zq {w:World}(h:xz w):0 < w.heap.size:=World.block_lt_of_cell? w _ (h 0 _ rfl)
theorem sum_any (w:World) (p:Nat) (s:S8) (v:Value) (l:List UInt8) (m:Nat) (h:yv w p s v m) (hb:zp w v l) (hl:l.length < 64) (hm:m≤100000000000) (hks:xz w) :
  Calls Tryz.prog 118 #[.pointer (some ⟨p,0,none⟩)] w fun e w'=>e = .returned (.agg ((vw (ky s (l ++ YV l.length m)).1).map bv).toArray)∧zb [] w w':=by
 have HH:=qI h
 have HB:=qI hb
 have Gv:=qI hks
 have HM:=qI hm
 have hlI:(l.length:Int) < 64:=by omega
 have HL:=qI hl
 clear h hb hks hm hl
 go_enter func118,ntmps118
 go_upto_region 4 with fail
 change Code.wp _ _ _ _ ((w.alloc (.cells z32 45)).alloc (.cells z32 45))
 obtain⟨W1,Gd⟩:∃ W1,Hid (W1=(w.alloc (.cells z32 45)).alloc (.cells z32 45)):=⟨_,qI rfl⟩
 have Gb:Hid (zb [] w W1):=qI (by rw [Gd.o];exact ((zb.refl _ w).alloc _).alloc _)
 have Gw:Hid (yf W1 w.heap.size (xy s 0)):=qI (by rw [Gd.o];exact ((zb.refl [] _).alloc _).heap (zd rfl) (by simp))
 have Jl:Hid (yf W1 (w.heap.size + 1) (xy s 0)):=qI (by rw [Gd.o];exact zd (by simp))
 have Jm:Hid (W1.heap.size=w.heap.size + 2):=qI (by rw [Gd.o];simp)
 rw [← Gd.o]
 have CF:=qI (fork_any W1 p s v l m (HH.o.kept Gb.o (by simp)) (HB.o.kept0 Gb.o) (by have:=HL.o;unfold lim;omega))
 obtain⟨z,HZ⟩:∃ z,Hid (z=(119 - l.length) % 64):=⟨_,qI rfl⟩
 have hz64:z < 64:=by rw [HZ.o];omega
 have ez:((119 - (l.length:Int)) % 64)=(z:Int):=by rw [HZ.o];omega
 have hmk:∀ W:World,(Instr.makeSlice 53 (.int .i64 z) (.int .i64 z)).run Tryz.prog W = .ok (.slice (some ⟨W.heap.size,0,none⟩) z z) (W.alloc (.cells (madeCells #[.int .u8 0] z) 5)):=fun W=>YZ W z (by unfold lim;omega)
 have CP:Hid (∀ W:World,Calls Tryz.prog 80 #[.int .i64 (8 * (m:Int)),.int .i64 8] W fun e w'=>∃ v,e = .returned (.tuple #[v,.int .i64 0])∧xN W w' v (qV (8 * m) 8)∧zb [] W w'):=qI fun W=>by
  have h1:=ZL (8 * m) 8 W (by decide) (by decide) (.inl rfl)
  rwa [show ((8 * m:Nat):Int)=8 * (m:Int) by omega] at h1
 have hmI:(m:Int)≤100000000000:=by have:=HM.o;omega
 go_upto_region 6 with (go_at_call 154;refine CF.o.mono ?_;rintro e w2 ⟨q,v',rfl,hq,hh2,hb2,hv2,hk2⟩;obtain⟨av,cv,rfl,-,-⟩:=hb2.form;have HQ:=qI hq;have Gi:=qI hh2;have Jn:=qI hb2;have Jo:=qI hv2;have Gf:=qI hk2;have x8:=hh2.c.2.2.2.2.2.2.2.2.1;clear hq hh2 hb2 hv2 hk2)
 have x9:=((HH.o.kept Gb.o (by simp)).kept Gf.o (by simp)).c.2.2.2.2.2.2.2.2.2
 have hwr:wrap64 (8 * (m:Int))=8 * (m:Int):=by unfold wrap64;omega
 clear x8
 go_upto_region 7 with (go_at_call 80;refine (CP.o _).mono ?_;rintro e w3 ⟨v3,rfl,hnb3,hk3⟩;obtain⟨a3,c3,rfl,-,-⟩:=hnb3.1.form;rw [yN] at hnb3 ⊢;have Ja:=qI hnb3;have Gj:=qI hk3;clear hnb3 hk3 x9)
 obtain⟨W4,Gk⟩:∃ W4,Hid (W4=(w3.alloc (.cells #[.int .u8 128] 5)).alloc (.cells (madeCells #[.int .u8 0] z) 5)):=⟨_,qI rfl⟩
 have Ge:Hid (zb [] w3 W4):=qI (by rw [Gk.o];exact ((zb.refl _ w3).alloc _).alloc _)
 have Jp:Hid (zp W4 (.slice (some ⟨w3.heap.size,0,none⟩) 1 1) [128]):=qI (by rw [Gk.o];exact (jl w3 (bv 128) _ _ rfl).kept0 ((zb.refl [] _).alloc _))
 have Jb:Hid (zp W4 (.slice (some ⟨w3.heap.size + 1,0,none⟩) z z) (List.replicate z 0)):=qI (by
  have h1:=Slc.of_row (YS (w3.alloc (.cells #[.int .u8 128] 5)) 0 z (by unfold lim;omega) (Nat.zero_le _))
  rw [Gk.o]
  have e1:(w3.alloc (.cells #[.int .u8 128] 5)).heap.size=w3.heap.size + 1:=by simp
  rw [e1] at h1
  unfold zp
  rw [List.length_replicate]
  exact h1)
 have Jq:Hid (zp W4 (.slice a3 8 c3) (qV (8 * m) 8)):=qI (Ja.o.1.kept0 Ge.o)
 have Jr:Hid (W4.heap.size=w3.heap.size + 2):=qI (by rw [Gk.o];simp)
 obtain⟨W5,Jc⟩:∃ W5,Hid (W5=W4.alloc (.cells #[.slice (some ⟨w3.heap.size,0,none⟩) 1 1,.slice (some ⟨w3.heap.size + 1,0,none⟩) z z,.slice a3 8 c3] 53)):=⟨_,qI rfl⟩
 have Gc:Hid (zb [] W4 W5):=qI (by rw [Jc.o];exact (zb.refl _ W4).alloc _)
 have CC:Hid (Calls Tryz.prog 152 #[.slice (some ⟨w3.heap.size + 1 + 1,0,none⟩) 3 3] W5 fun e w'=>∃ v',e = .returned v'∧xN W5 w' v' (YV l.length m)∧zb [] W5 w'):=qI (by
  have hrow:Row W5 W4.heap.size 0 [.slice (some ⟨w3.heap.size,0,none⟩) 1 1,.slice (some ⟨w3.heap.size + 1,0,none⟩) z z,.slice a3 8 c3]:=by rw [Jc.o];exact ZY W4 _ _
  have h1:=concat3 W4.heap.size 3 _ _ _ [128] (List.replicate z 0) (qV (8 * m) 8) W5 hrow (Jp.o.kept0 Gc.o) (Jb.o.kept0 Gc.o) (Jq.o.kept0 Gc.o) (by rw [yN];simp [lim];omega)
  rw [Jr.o] at h1
  rw [HZ.o] at h1
  exact h1)
 have hpl:Hid ((YV l.length m).length=9 + z):=qI (by simp [YV,yN,HZ.o];omega)
 obtain⟨R,HR⟩:∃ R,Hid (R=ky s (l ++ YV l.length m)):=⟨_,qI rfl⟩
 have Gx:Hid (zb [] w W5):=qI (((Gb.o.then Gf.o).then Gj.o).then (Ge.o.then Gc.o))
 have Gl:Hid (w.heap.size + 2≤q):=qI (by have:=HQ.o;have:=Jm.o;omega)
 have Jd:=qI (Zq Gv.o)
 go_upto_region 8 with first
  | (go_at_call 152;rw [← Gk.o,← Jc.o];refine CC.o.mono ?_;rintro e w6 ⟨v6,rfl,hnb6,hk6⟩;obtain⟨a6,c6,rfl,-,-⟩:=hnb6.1.form;have Gm:=qI hnb6;have Gn:=qI hk6;clear hnb6 hk6)
  | (go_at_call 117;refine (YQ w6 q s (.slice av l.length cv) (.slice a6 (YV l.length m).length c6) l (YV l.length m) m (Gi.o.kept (((Gj.o.then Ge.o).then Gc.o).then Gn.o) (by simp)) (Jn.o.kept0 (((Gj.o.then Ge.o).then Gc.o).then Gn.o)) (fun g hg=>?_) Gm.o.1 (fun g hg=>?_) (Nat.le_of_lt HL.o) (by rw [hpl.o];omega) (by omega) (by have:=HM.o;omega) (Gv.o.kept0 (Gx.o.then Gn.o)) (by have:=Jd.o;have:=Gl.o;omega)).mono ?_)
 ·exact yL (Jo.o g hg).2 Gi.o.kd (by decide)
 ·have h1:=(Gm.o.2 g hg).1
  have h2:=Gi.o.lt
  have h3:=((Gj.o.then Ge.o).then Gc.o).size
  omega
 rintro e w7 ⟨rfl,hwr7⟩
 rw [← HR.o] at hwr7
 obtain⟨⟨v7,hh7,-,-⟩,hk7,-⟩:=hwr7
 have Js:=qI hh7
 have Jt:Hid (zb [] w w7):=qI ((Gx.o.then Gn.o).trans hk7 (by intro i hi;simp at hi;subst hi;exact .inr (by have:=Gl.o;omega)))
 have Ji:Hid (zb [q] W1 w7):=qI (((Gf.o.then Gj.o).then ((Ge.o.then Gc.o).then Gn.o)).mono (by simp) |>.trans' hk7)
 have Ju:Hid (yf w7 (w.heap.size + 1) (xy R.1 0)):=qI (Ji.o.heap Jl.o (by have:=Gl.o;simp;omega))
 have Jv:Hid (yf w7 w.heap.size (xy R.1 0)):=qI (Ji.o.heap Gw.o (by have:=Gl.o;simp;omega))
 clear hh7 hk7 hmk ez hz64
 go_wp2_with fail
 go_loopw [38] (fun i wr=>∃ k:Nat,i = .int .i64 k∧k≤32∧yf wr (w.heap.size + 1) (xy R.1 k)∧yf wr w.heap.size (xy R.1 0)∧yv wr q R.1 v7 (m + (YV l.length m).length)∧zb [] w wr) (fun i _=>32 - (intOf i).toNat)
 case atStart=>exact⟨0,rfl,Nat.zero_le _,Ju.o,Jv.o,Js.o,Jt.o⟩
 case round=>
  obtain⟨k,rfl,hk,ho,hr,hh,hkr⟩:=hrel
  have HO:=qI ho
  have Je:=qI hr
  have Jw:=qI hh
  have Ga:=qI hkr
  rcases Nat.lt_or_ge k 32 with h32 | h32
  ·have h32I:(k:Int) < 32:=by omega
   have c0:=hh.st (k / 4) (by omega)
   have o0:=za (o:=k) (v:=bv ((xy R.1 k)[k]'(by rw [z6];exact h32))) ho (by rw [List.getElem?_toArray,List.getElem?_map,List.getElem?_eq_getElem (by rw [z6];exact h32)];rfl)
   have f0:=zh (o:=k) ho
   clear ho hr hh hkr
   go_wp2_with fail
   case roundEnd=>
    have hst:zb [w.heap.size + 1] wr (wr.setCell ⟨w.heap.size + 1,k,none⟩ (.int .u8 (R.1.get (k / 4) / 2 ^ (24 - 8 * (k % 4)) % 256))):=(zb.refl _ _).setCell (.inl (by simp)) _
    exact⟨⟨k + 1,by go_num,by omega,ze HO.o (outK_set R.1 k h32),hst.heap Je.o (by simp),Jw.o.kept hst (by have:=Gl.o;simp;omega),Ga.o.setCell (.inr (by simp)) _⟩,by simp [intOf];omega⟩
  ·obtain rfl:k=32:=by omega
   clear ho hr hh hkr hmI hwr hlI
   rw [outK_all] at HO
   have hsz:((vw R.1).map bv).toArray.size=32:=by simp [km]
   go_upto_region 13 with fail
   refine wp_region_list ?_
   change wpList _ _ _ [_,_] _ _
   refine wpList_load_mid (by rfl) 45 (.tmp 3) (by rfl) (w.heap.size + 1) 0 (by rfl) ((vw R.1).map bv) _ HO.o.range underlying45 rfl (by rw [List.length_map,km];exact xX) ?_
   refine wpList_store_mid (by rfl) 45 (.tmp 2) (.tmp 57) (by rfl) w.heap.size 0 ((vw R.1).map bv).toArray (by rfl) (by rfl) (by rw [hsz];exact Je.o.there 32 (z6 _ _)) (by rw [hsz];exact xX) (one32 _) ?_
   have hF:Hid (yf (wr.setCells w.heap.size 0 ((vw R.1).map bv)) w.heap.size (vw R.1)):=qI (Je.o.put (by rw [km,z6]))
   have hKF:Hid (zb [] w (wr.setCells w.heap.size 0 ((vw R.1).map bv))):=qI (Ga.o.trans (z7 w.heap.size ((vw R.1).map bv) 0 wr) (by intro i hi;simp at hi;subst hi;exact .inr (Nat.le_refl _)))
   revert hF hKF
   show _→_→wpList _ _ _ _ _ (wr.setCells w.heap.size 0 ((vw R.1).map bv))
   generalize wr.setCells w.heap.size 0 ((vw R.1).map bv)=WF
   intro hF hKF
   have hres:=run_loadVar_mid (P:=Tryz.prog) WF w.heap.size 0 45 ((vw R.1).map bv) _ hF.o.range underlying45 rfl (by rw [List.length_map,km];exact xX)
   rw [HR.o] at hres
   try simp only [zA,zN,zB,zC,zD]
   go_wp2_with fail
   exact bodyPost_ret (v:=.agg ((vw (ky s (l ++ YV l.length m)).1).map bv).toArray) (by simp only [results,results118];simp [hres,Sem.run_bind,asAddr]) rfl ⟨rfl,hKF.o⟩
theorem Kp:∀ (k:Nat) (s:S8) (l:List UInt8),l.length≤k→(ky s l).2.length=l.length % 64
 | 0,s,l,h=>by
  rw [jn s l (by omega)]
  show l.length=_
  omega
 | k + 1,s,l,h=>by
  rcases Nat.lt_or_ge l.length 64 with h64 | h64
  ·rw [jn s l h64]
   show l.length=_
   omega
  ·rw [vN s l h64,Kp k _ _ (by simp;omega),List.length_drop]
   omega
theorem yf.kept {X:List Nat}{w w':World}{g:Nat}{l:List UInt8}(h:yf w g l) (k:zb X w w') (hg:g ∉ X):yf w' g l:=k.heap h hg
theorem yf.kept0 {w w':World}{g:Nat}{l:List UInt8}(h:yf w g l) (k:zb [] w w'):yf w' g l:=h.kept k (by simp)
theorem zu {ops:Array Oper}{rest:List Oper}{op:Oper}{a:Act}{w:World}{Q:Exit→Act→World→Prop}(hgd:op.guard=none) (x y:Operand) (ho:op.op = .store 45 x y) {g:Nat}{l l0:List UInt8}(h0:yf w g l0) (hl0:l0.length=32) (hl:l.length=32)
  (hx:a.eval x = .pointer (some ⟨g,0,none⟩)) (hy:a.eval y = .agg (l.map bv).toArray) (h:∀ w',yf w' g l→zb [g] w w'→wpList Tryz.prog ops Q rest (a.put op.dst undef) w'):wpList Tryz.prog ops Q (op :: rest) a w:=by
 have hsz:(l.map bv).toArray.size=32:=by simp [hl]
 refine wpList_store_mid hgd 45 x y ho g 0 (l.map bv).toArray hx hy (by rw [hsz];exact h0.there 32 hl0) (by rw [hsz];exact xX) (one32 _) (h _ ?_ (z7 _ _ _ _))
 exact h0.put (by rw [hl,hl0])
theorem yz {ops:Array Oper}{rest:List Oper}{op:Oper}{a:Act}{w:World}{Q:Exit→Act→World→Prop}(hgd:op.guard=none) (x:Operand) (ho:op.op = .load 45 x) {g:Nat}{l:List UInt8}(h0:yf w g l) (hl:l.length=32)
  (hx:a.eval x = .pointer (some ⟨g,0,none⟩)) (h:wpList Tryz.prog ops Q rest (a.put op.dst (.agg (l.map bv).toArray)) w):wpList Tryz.prog ops Q (op :: rest) a w:=
 wpList_load_mid hgd 45 x ho g 0 hx (l.map bv) _ h0.range underlying45 rfl (by rw [List.length_map,hl];exact xX) h
theorem yf.var {w:World}{g:Nat}{l:List UInt8}(h:yf w g l) (hl:l.length=32):(loadVar 45 ⟨g,0,none⟩).run Tryz.prog w = .ok (.agg (l.map bv).toArray) w:=run_loadVar_mid (P:=Tryz.prog) w g 0 45 (l.map bv) _ h.range underlying45 rfl (by rw [List.length_map,hl];exact xX)
structure bO (w:World) (q:Nat) (l:List UInt8) (wr:World):Prop where
 hash:∃ v,yv wr q (ky zw l).1 v l.length∧zp wr v (ky zw l).2∧∀ g,yq v=some g→g≠q
 kept:zb [] w wr
 res:yf wr w.heap.size (xy zw 0)
 ks:xz wr
theorem of_any (w:World) (g o cap:Nat) (vals:List Value) (ls:List (List UInt8)) (hrow:Row w g o vals) (hall:zI (zp w) vals ls) (hsum:ls.flatten.length≤100000000) (hn:vals.length≤1000000) (hks:xz w) :
  Calls Tryz.prog 82 #[.slice (some ⟨g,o,none⟩) vals.length cap] w fun e w'=>e = .returned (.agg ((zY ls.flatten).map bv).toArray)∧zb [] w w':=by
 have Jf:=qI hrow
 have Gp:=qI hall
 have Gq:=qI hsum
 have HN:=qI hn
 have Gv:=qI hks
 have Jd:=qI (Zq hks)
 have hnI:(vals.length:Int)≤1000000:=by omega
 have Jj:Hid (ls.length=vals.length):=qI hall.1.symm
 clear hrow hall hsum hks hn
 go_enter func82,ntmps82
 go_upto_region 1 with fail
 change Code.wp _ _ _ _ (w.alloc (.cells z32 45))
 obtain⟨W1,Gd⟩:∃ W1,Hid (W1=w.alloc (.cells z32 45)):=⟨_,qI rfl⟩
 have Gb:Hid (zb [] w W1):=qI (by rw [Gd.o];exact (zb.refl _ w).alloc _)
 have Gw:Hid (yf W1 w.heap.size (xy zw 0)):=qI (by rw [Gd.o];exact zd rfl)
 rw [← Gd.o]
 go_wp2_with (go_at_call 116;refine (new_any W1).mono ?_;rintro e w2 ⟨q,rfl,hq,hh2,hk2⟩;have HQ:=qI hq;have Gi:=qI hh2;have Gf:=qI hk2;clear hq hh2 hk2)
 have Gy:Hid (w.heap.size < q):=qI (by have:=HQ.o;have:=Gw.o.lt;omega)
 go_loopw [5,9] (fun _ i wr=>∃ k:Nat,i = .int .i64 k∧k≤vals.length∧bO w q (ls.take k).flatten wr) (fun _ i _=>vals.length - (intOf i).toNat)
 case atStart=>exact⟨0,rfl,Nat.zero_le _,⟨⟨_,Gi.o,xn _ _,by simp [yq]⟩,Gb.o.then Gf.o,Gf.o.heap Gw.o (by simp),Gv.o.kept0 (Gb.o.then Gf.o)⟩⟩
 case round=>
  obtain⟨k,rfl,hk,⟨⟨v,hh,hb,hv⟩,hkr,hres,hkr2⟩⟩:=hrel
  have HH:=qI hh
  have HB:=qI hb
  have HV:=qI hv
  have Ga:=qI hkr
  have Gr:=qI hres
  have Gs:=qI hkr2
  have Gg:Hid ((ls.take k).flatten.length≤100000000):=qI (Nat.le_trans (jg ls k) Gq.o)
  clear hh hb hv hkr hres hkr2
  rcases Nat.lt_or_ge k vals.length with hlt | hlt
  ·have hltI:(k:Int) < vals.length:=by omega
   have c0:=Ga.o.cell (Jf.o.at hlt) (by simp)
   have hlt2:k < ls.length:=by rw [Jj.o];exact hlt
   have Jk:Hid (zp wr vals[k] ls[k]):=qI ((Gp.o.2 k _ _ (List.getElem?_eq_getElem hlt) (List.getElem?_eq_getElem hlt2)).kept0 Ga.o)
   have Gz:Hid ((ls.take (k + 1)).flatten=(ls.take k).flatten ++ ls[k]):=qI (xQ ls k hlt2)
   have Jx:Hid ((ls.take (k + 1)).flatten.length≤100000000):=qI (Nat.le_trans (jg ls (k + 1)) Gq.o)
   have Jy:Hid (∀ g,yq vals[k]=some g→g≠q):=qI (fun g hg=>by
    have h1:=(Gp.o.2 k _ _ (List.getElem?_eq_getElem hlt) (List.getElem?_eq_getElem hlt2)).lt hg
    have h2:=Gy.o
    omega)
   have CW:Hid (Calls Tryz.prog 117 #[.pointer (some ⟨q,0,none⟩),vals[k]] wr fun e w'=>e = .returned (.int .i64 ls[k].length)∧bO w q (ls.take (k + 1)).flatten w'):=qI (by
    have h1:=YQ wr q _ v vals[k] _ ls[k] _ HH.o HB.o HV.o Jk.o Jy.o (Nat.le_of_lt (Z8 _ _)) (by have:=Jx.o;rw [Gz.o,List.length_append] at this;omega) (by omega) (by have:=Gg.o;omega) Gs.o (by have:=Jd.o;have:=Gy.o;omega)
    refine h1.mono ?_
    rintro e w' ⟨rfl,⟨v',hh',hb',hv'⟩,hk',hks'⟩
    rw [← bV _ zw _ ls[k] (Nat.le_refl _),← Gz.o] at hh' hb'
    refine⟨rfl,⟨v',?_,hb',fun g hg=>?_⟩,Ga.o.trans hk' (by intro i hi;simp at hi;subst hi;exact .inr (by have:=Gy.o;omega)),hk'.heap Gr.o (by have:=Gy.o;simp;omega),hks'⟩
    ·rw [Gz.o,List.length_append,Int.natCast_add]
     rw [← Gz.o]
     exact hh'
    ·have h2:=(hv' g hg).1
     have h3:=HH.o.lt
     omega)
   generalize hlk:ls[k].length=lk at CW
   clear hlk
   obtain⟨va,vn,vc,hvv,-,-⟩:∃ a n c,vals[k] = .slice a n c∧True∧True:=by
    obtain⟨a,c,h1,-,-⟩:=Jk.o.form
    exact⟨_,_,_,h1,trivial,trivial⟩
   rw [hvv] at c0 CW
   have e9:o + k * 1=o + k:=by omega
   clear hvv
   go_wp2_with (go_at_call 117;refine CW.o.mono ?_;rintro e w3 ⟨rfl,hr3⟩;have Jz:=qI hr3;clear hr3)
   case roundEnd=>exact⟨⟨k + 1,by go_num,by omega,Jz.o⟩,by simp [intOf];omega⟩
  ·obtain rfl:k=vals.length:=by omega
   have HT:Hid (ls.take vals.length=ls):=qI (by rw [← Jj.o];exact List.take_length)
   rw [HT.o] at HH HB Gg
   have CS:Hid (Calls Tryz.prog 118 #[.pointer (some ⟨q,0,none⟩)] wr fun e w'=>e = .returned (.agg ((zY ls.flatten).map bv).toArray)∧zb [] wr w'):=qI (by
    have h1:=sum_any wr q _ v _ ls.flatten.length HH.o HB.o (Z8 _ _) (by have:=Gg.o;omega) Gs.o
    rw [← bV _ zw _ _ (Nat.le_refl _),Kp _ _ _ (Nat.le_refl _)] at h1
    exact h1)
   have hsz:((zY ls.flatten).map bv).toArray.size=32:=by simp [yn]
   go_wp2_with first
    | (go_at_call 118;refine CS.o.mono ?_;rintro e w4 ⟨rfl,hk4⟩;have Ge:=qI hk4;clear hk4)
    | (refine zu (by rfl) (.tmp 2) (.tmp 18) (by rfl) (Gr.o.kept0 Ge.o) (z6 _ _) (yn _) (by rfl) (by rfl) ?_;intro w5 h5 hk5;have H5:=qI h5;have Gc:=qI hk5;clear h5 hk5)
   have hres:=H5.o.var (yn _)
   refine bodyPost_ret (v:=.agg ((zY ls.flatten).map bv).toArray) (by simp only [results,results82];simp [hres,Sem.run_bind,asAddr,Act.put]) rfl ⟨rfl,?_⟩
   exact (Ga.o.then Ge.o).trans Gc.o (by intro i hi;simp at hi;subst hi;exact .inr (Nat.le_refl _))
open Go.Lib (decodeL)
theorem xA (l:List UInt8):(yc l).size=l.length:=by simp [yc,ByteArray.size]
theorem zp.toStr {w:World}{v:Value}{l:List UInt8}(h:zp w v l):(convert 53 9 v).run Tryz.prog w = .ok (.string (yc l)) w:=by
 rcases h.2 with ⟨rfl,h0⟩ | ⟨h0,ad,cap,rfl,hm⟩ | ⟨g,o,cap,rfl,hc,hm,hr⟩
 ·have:l=[]:=List.eq_nil_of_length_eq_zero h0
  subst this
  have h1:=run_convert_bytes_nil (P:=Tryz.prog) w 53 5 underlying53 underlying5 0 0 9 underlying9
  have e1:yc []=ByteArray.empty:=by rfl
  rw [e1]
  exact h1
 ·have:l=[]:=List.eq_nil_of_length_eq_zero h0
  subst this
  have h1:=run_convert_bytes_string (P:=Tryz.prog) w 53 9 5 (some ad) 0 cap underlying53 underlying5 underlying9
  rw [h1]
  rfl
 ·have h1:=run_convert_bytes_arg (P:=Tryz.prog) w 53 5 underlying53 underlying5 g o l.length cap (l.map fun b=>(b.toNat:Int)) (by simp) (fun i hi=>by
   rw [hr.at (by simpa using hi)]
   simp [bv,List.getD_eq_getElem?_getD,hi]) 9 underlying9
  have e2:strOfNums (l.map fun b=>(b.toNat:Int))=yc l:=by
   unfold strOfNums yc
   rw [List.map_map]
   have e3:((fun n:Int=>UInt8.ofNat n.toNat) ∘ fun b:UInt8=>(b.toNat:Int))=id:=funext fun b=>by simp
   rw [e3,List.map_id]
  rw [← e2]
  exact h1
theorem refNext_any (s:ByteArray) (hs:s.size≤281474976710656) (w:World) :
  Calls Tryz.prog 140 #[.string s] w fun e w'=>e = .returned (.tuple #[.int .i64 (vS s.data.toList).1,.int .i64 (vS s.data.toList).2])∧zb [] w w':=by
 have HZ:=qI (nextGo_eq s.data.toList)
 have HL:Hid (s.data.toList.length=s.size):=qI (by simp)
 go_enter func140,ntmps140
 go_wp2_with fail
 go_loopw [4] (fun i wr=>∃ k:Nat,1≤k∧k≤5∧i = .int .i64 k∧qP (5 - k) k s.data.toList=qP 4 1 s.data.toList∧zb [] w wr) (fun i _=>5 - (intOf i).toNat)
 case atStart=>exact⟨1,by omega,by omega,rfl,rfl,zb.refl _ _⟩
 case round=>
  obtain⟨k,hk1,hk5,rfl,hg,hkr⟩:=hrel
  have HG:=qI hg
  have Ga:=qI hkr
  clear hg hkr
  by_cases hgo:k≤4∧k≤s.size
  ·obtain⟨h4,hks⟩:=hgo
   have h4I:(k:Int)≤4:=by omega
   have hksI:(k:Int)≤s.size:=by omega
   have hg2:qP (5 - k) k s.data.toList=if Z6 (kz s.data.toList k)=true∧xG (kz s.data.toList k).toNat=s.data.toList.take k then (kz s.data.toList k,k) else qP (5 - (k + 1)) (k + 1) s.data.toList:=by
    rw [show 5 - k=(5 - (k + 1)) + 1 by omega]
    conv=>lhs;unfold qP
    rw [if_pos ⟨h4,by rw [HL.o];exact hks⟩]
   have Gt:=qI hg2
   have CC:=qI (code_any s k hk1 h4 hks hs wr)
   have HT:Hid ((s.extract 0 k).data.toList=s.data.toList.take k):=qI (by rw [ext_list s 0 k hks];simp)
   clear hg2
   revert Gt CC
   generalize kz s.data.toList k=c
   intro Gt CC
   cases hmay:Z6 c with
   | false=>
    have HM:=qI hmay
    clear hmay
    go_wp2_with (go_at_call 175;refine CC.o.mono ?_;rintro e w2 ⟨rfl,rfl⟩)
    refine yo wr (by kernel_rfl) (by kernel_rfl) (zb.refl _ _) ?_
    repeat go_big_quiet_step ((go_at_call 176;exact ext_same ((may_any c _).mono (by rw [HM.o];exact fun _ _ h=>h))))
    refine wpQuiet_nil ?_
    intro w2 hk2
    go_wp2_with fail
    case roundEnd=>
     refine⟨⟨k + 1,by omega,by omega,by go_num,?_,Ga.o.then hk2⟩,by simp [intOf];omega⟩
     rw [← HG.o,Gt.o,if_neg (by rw [HM.o];simp)]
   | true=>
    obtain⟨m,rfl,hm⟩:=Z7.1 hmay
    have HM:=qI hmay
    have Ma:=qI hm
    clear hmay hm
    go_wp2_with (go_at_call 175;refine CC.o.mono ?_;rintro e w2 ⟨rfl,rfl⟩)
    refine zr (n:=11) (fun w':World=>zb [] wr w') 11 (by kernel_rfl) (by kernel_rfl) ?_
    change zM _ _ _ _ _ _ _ _ _ wr.drew
    have hSS:(fun w':World=>zb [] wr w') wr.drew:=(zb.refl _ _).drew
    revert hSS
    generalize wr.drew=W
    intro hSS
    refine zG ?_
    intro O R hO hR
    have hQp:∀ c a (d:Nat) v w,R (.panic c) (a.put (some d) v) w→R (.panic c) a w:=by subst hR;exact fun _ _ _ _ _ h=>h
    refine qT 0 ?_ hO rfl rfl (by kernel_rfl) hQp (fun w hSw=>?_) hSS ?_
    rotate_left
    ·go_simp;try with_reducible rfl
    try simp only [zA,zN,zB,zC,zD]
    refine qO 1 hO rfl (by kernel_rfl) (fun K hK=>?_)
    go_simp
    refine Calls.mono (may_any _ _) ?_
    rintro e w2 ⟨rfl,rfl⟩
    rw [HM.o]
    refine hK _ _ (.inr hSS) ?_
    clear hK K
    try simp only [zA,zN,zB,zC,zD]
    refine qT 2 ?_ hO rfl rfl (by kernel_rfl) hQp (fun w hSw=>?_) hSS ?_
    rotate_left
    ·go_simp;try with_reducible rfl
    try simp only [zA,zN,zB,zC,zD]
    refine qT 3 ?_ hO rfl rfl (by kernel_rfl) hQp (fun w hSw=>?_) hSS ?_
    rotate_left
    ·go_simp;try with_reducible rfl
    try simp only [zA,zN,zB,zC,zD]
    refine qT 6 ?_ hO rfl rfl (by kernel_rfl) hQp (fun w hSw=>?_) hSS ?_
    rotate_left
    ·go_simp;try with_reducible rfl
    try simp only [zA,zN,zB,zC,zD]
    refine qT 7 ?_ hO rfl rfl (by kernel_rfl) hQp (fun w hSw=>?_) hSS ?_
    rotate_left
    ·go_simp;try with_reducible rfl
    try simp only [zA,zN,zB,zC,zD]
    refine qT 8 ?_ hO rfl rfl (by kernel_rfl) hQp (fun w hSw=>?_) hSS ?_
    rotate_left
    ·go_simp;try with_reducible rfl
    try simp only [zA,zN,zB,zC,zD]
    refine qO 4 hO rfl (by kernel_rfl) (fun K hK=>?_)
    go_simp
    refine Calls.mono (refBytes_any m Ma.o _) ?_
    rintro e w2 ⟨⟨ab,cb,rfl,hb⟩,hk2⟩
    have cv:(convert 53 9 (.slice ab (xG m).length cb)).run Tryz.prog w2 = .ok (.string (yc (xG m))) w2:=zp.toStr hb
    have hS2:(fun w':World=>zb [] wr w') w2:=zb.trans' hSS hk2
    refine hK _ _ (.inr hS2) ?_
    clear hK K
    try simp only [zA,zN,zB,zC,zD]
    clear hSS
    have hSS:=hS2
    clear hS2 hb
    refine qO 5 hO rfl (by kernel_rfl) (fun K hK=>?_)
    go_simp
    refine hK _ _ (.inr hSS) ?_
    clear hK K
    try simp only [zA,zN,zB,zC,zD]
    clear cv
    by_cases heq:xG m=s.data.toList.take k
    ·have ft:((yc (xG m)).toList == (s.extract 0 k).toList)=true:=(k9 (ba_eq (by rw [xR,HT.o,heq]))).1
     have Gu:Hid (qP (5 - k) k s.data.toList=((m:Int),k)):=qI (by rw [Gt.o,if_pos ⟨HM.o,by rw [Int.toNat_natCast];exact heq⟩])
     clear heq
     refine qT 9 ?_ hO rfl rfl (by kernel_rfl) hQp (fun w hSw=>?_) hSS ?_
     rotate_left
     ·go_simp;try with_reducible rfl
     try simp only [zA,zN,zB,zC,zD]
     refine qT 10 ?_ hO rfl rfl (by kernel_rfl) hQp (fun w hSw=>?_) hSS ?_
     rotate_left
     ·go_simp;try with_reducible rfl
     try simp only [zA,zN,zB,zC,zD]
     refine zE hO (by kernel_rfl) ?_ _
     subst hR
     try clear hQp hO O
     go_wp2_with fail
     go_ret2
     rw [← HZ.o,← HG.o,Gu.o]
     exact⟨rfl,Ga.o.then hSS⟩
    ·have ft:((yc (xG m)).toList == (s.extract 0 k).toList)=false:=(kF (fun e=>heq (by rw [← HT.o,← e,xR]))).1
     have Gu:Hid (qP (5 - k) k s.data.toList=qP (5 - (k + 1)) (k + 1) s.data.toList):=qI (by rw [Gt.o,if_neg (fun e=>heq (by have:=e.2;rw [Int.toNat_natCast] at this;exact this))])
     clear heq
     refine qT 9 ?_ hO rfl rfl (by kernel_rfl) hQp (fun w hSw=>?_) hSS ?_
     rotate_left
     ·go_simp;try with_reducible rfl
     try simp only [zA,zN,zB,zC,zD]
     refine qT 10 ?_ hO rfl rfl (by kernel_rfl) hQp (fun w hSw=>?_) hSS ?_
     rotate_left
     ·go_simp;try with_reducible rfl
     try simp only [zA,zN,zB,zC,zD]
     refine zE hO (by kernel_rfl) ?_ _
     subst hR
     try clear hQp hO O
     go_wp2_with fail
     case roundEnd=>exact⟨⟨k + 1,by omega,by omega,by go_num,by rw [← HG.o,Gu.o],Ga.o.then hSS⟩,by simp [intOf];omega⟩
  ·have Gu:Hid (vS s.data.toList=(-1,0)):=qI (by
    rw [← HZ.o,← HG.o]
    rcases (by omega:k=5∨(k≤4∧s.size < k)) with rfl | ⟨h1,h2⟩
    ·rfl
    ·rw [show 5 - k=(4 - k) + 1 by omega]
     unfold qP
     rw [if_neg (by rw [HL.o];omega)])
   rcases (by omega:(5:Int)≤k∨((k:Int)≤4∧(s.size:Int) < k)) with h1 | ⟨h1,h2⟩
   all_goals
    go_wp2_with fail
    go_ret2
    rw [Gu.o]
    exact⟨rfl,Ga.o⟩
theorem next_valid {l:List UInt8}(h:l≠[]):((vS l).2=0∧Lib.validD l=false)∨(1≤(vS l).2∧(vS l).2≤l.length∧Lib.validD l=Lib.validD (l.drop (vS l).2)):=by
 by_cases hb:(decodeL l).1=65533∧(decodeL l).2=1
 ·refine .inl ⟨?_,?_⟩
  ·unfold vS;rw [if_pos (.inr hb)]
  ·rw [Lib.validD_step l h,if_pos hb]
 ·have D:=decoded h hb
  have e:vS l=(((decodeL l).1:Int),(decodeL l).2):=by unfold vS;rw [if_neg (by rintro (q | q);exact h q;exact hb q)]
  refine .inr ⟨?_,?_,?_⟩
  ·rw [e];exact D.pos
  ·rw [e];exact D.le
  ·rw [e,Lib.validD_step l h,if_neg hb]
theorem bq (s:ByteArray) (hs:s.size≤281474976710656) (w:World) :
  Calls Tryz.prog 103 #[.string s] w fun e w'=>e = .returned (.bool (zJ s))∧zb [] w w':=by
 go_enter func103,ntmps103
 go_wp2_with fail
 go_loopw [0] (fun x wr=>∃ t:ByteArray,x = .string t∧t.size≤s.size∧zJ t=zJ s∧zb [] w wr) (fun x _=>match x with | .string t=>t.size | _=>0)
 case atStart=>exact⟨s,rfl,Nat.le_refl _,rfl,zb.refl _ _⟩
 case round=>
  obtain⟨t,rfl,ht,hg,hkr⟩:=hrel
  have HG:=qI hg
  have Ga:=qI hkr
  clear hg hkr
  by_cases h0:0 < t.size
  ·have h0I:(0:Int) < t.size:=by omega
   have hlen:t.data.toList.length=t.size:=by simp
   have hne:t.data.toList≠[]:=fun e=>by rw [e] at hlen;simp only [List.length_nil] at hlen;omega
   have CN:=qI (refNext_any t (by omega) wr)
   have hv:=next_valid hne
   have HX:Hid (∀ i,(t.extract i t.size).data.toList=t.data.toList.drop i):=qI (ext_from t)
   unfold zJ at HG
   rw [hlen] at hv
   clear hne hlen
   revert CN hv
   generalize vS t.data.toList=r
   obtain⟨c,k⟩:=r
   intro CN hv
   simp only at CN hv
   rcases hv with ⟨rfl,hv⟩ | ⟨hk1,hk2,hv⟩
   ·have HF:Hid (zJ s=false):=qI (by unfold zJ;rw [← HG.o,hv])
    clear hv
    go_wp2_with (go_at_call 140;refine CN.o.mono ?_;rintro e w2 ⟨rfl,hk2⟩)
    go_ret
    rw [HF.o]
    exact⟨rfl,Ga.o.then hk2⟩
   ·have hk1I:(1:Int)≤k:=by omega
    have hk2I:(k:Int)≤t.size:=by omega
    have fk:=(YW (a:=k) (b:=0) (by omega)).1
    have HV:=qI hv
    clear hv
    go_wp2_with (go_at_call 140;refine CN.o.mono ?_;rintro e w2 ⟨rfl,hk2⟩)
    case roundEnd=>
     refine⟨⟨t.extract k t.size,rfl,by simp;omega,?_,Ga.o.then hk2⟩,by simp;omega⟩
     unfold zJ
     rw [HX.o,← HV.o,HG.o]
  ·have h1:t.size=0:=by omega
   have HF:Hid (zJ s=true):=qI (by
    rw [← HG.o]
    have:t.data.toList=[]:=List.eq_nil_of_length_eq_zero (by simpa using h1)
    unfold zJ
    rw [this]
    rfl)
   have h0':¬ (0:Int) < t.size:=by omega
   clear h1
   go_wp2_with fail
   go_ret
   rw [HF.o]
   exact⟨rfl,Ga.o⟩
structure zU (b:Nat) (w w':World):Prop where
 os:w'.os=w.os
 tape:w'.tape=w.tape
 output:w'.output=w.output
 size:w.heap.size≤w'.heap.size
 block:∀ k,k < w.heap.size→k≠b→kind w k≠5 + 2→w'.heap[k]? = w.heap[k]?
theorem zU.refl (b:Nat) (w:World):zU b w w:=⟨rfl,rfl,rfl,Nat.le_refl _,fun _ _ _ _=>rfl⟩
theorem zU.trans {b:Nat}{x y z:World}(h:zU b x y) (k:zU b y z):zU b x z:=
 ⟨k.os.trans h.os,k.tape.trans h.tape,k.output.trans h.output,Nat.le_trans h.size k.size,fun i hi hb hk=>by
  have h1:=h.block i hi hb hk
  have h2:kind y i=kind x i:=by simp [kind,h1]
  exact (k.block i (Nat.lt_of_lt_of_le hi h.size) hb (by rw [h2];exact hk)).trans h1⟩
theorem zU.of {b:Nat}{X:List Nat}{w w':World}(h:zb X w w') (hX:∀ k,k ∈ X→k=b∨kind w k=5 + 2):zU b w w':=
 ⟨h.os,h.tape,h.output,h.size,fun k hk hb hn=>h.block k hk (fun e=>by rcases hX k e with g | g;exact hb g;exact hn g)⟩
theorem zU.of0 {b:Nat}{w w':World}(h:zb [] w w'):zU b w w':=.of h (by simp)
theorem zU.heap {b:Nat}{w w':World}(h:zU b w w') {k:Nat}{o:Obj}(ho:w.heap[k]? = some o) (hb:k≠b) (hk:kind w k≠5 + 2):w'.heap[k]? = some o:=
 (h.block k (lt_of_block ho) hb hk).trans ho
structure BW (T:Nat) (W:World) (b:Nat) (w:World) (l:List UInt8):Prop where
 blk:∃ p v,(p = .pointer none∨p = .pointer (some ⟨b,0,none⟩))∧w.heap[b]? = some (.cells #[p,v] T (0,0))∧w.ownsRow W.heap.size 5 1 v l.length (l.map bv)
 kept:zb [b] W w
 lt:b < W.heap.size
theorem BW.stay {T:Nat}{W:World}{b:Nat}{w w':World}{l:List UInt8}(h:BW T W b w l) (k:zb [] w w'):BW T W b w' l:=by
 obtain⟨p,v,hp,hb,hr⟩:=h.blk
 exact⟨⟨p,v,hp,k.heap hb (by simp),zk hr k (by simp)⟩,h.kept.then k,h.lt⟩
theorem BW.new {T:Nat}{W:World}{b:Nat}(h:W.heap[b]? = some (.cells #[.pointer none,.slice none 0 0] T (0,0))):BW T W b W []:=
 ⟨⟨_,_,.inl rfl,h,World.ownsRow_nil _ _ _ _⟩,zb.refl _ _,lt_of_block h⟩
def QE (T:Nat):Prop:=liesAt Tryz.prog Tryz.prog.depth T (2 / Tryz.prog.cellsOf T) 0 125 1=true
theorem xJ:QE 125:=by unfold QE;kernel_rfl
theorem yX:QE 200:=by unfold QE;kernel_rfl
theorem shape_of {w:World}{b:Nat}{c:Array Value}{t:Nat}{f:Nat × Nat}(h:w.heap[b]? = some (.cells c t f)):w.shape? b=some (t,c.size):=by simp [World.shape?,h]
theorem ptr_same (w:World) (b:Nat):(binOp .neq 123 (.pointer (some ⟨b,0,none⟩)) (.pointer (some ⟨b,0,none⟩))).run Tryz.prog w = .ok (.bool false) w:=by
 have h1:(Tryz.prog.info? 125).map (·.size)=some 2:=by kernel_rfl
 obtain⟨j,hj,_⟩:=Option.map_eq_some_iff.1 h1
 exact Lib.run_neq_ptr_same w _ underlying123 hj
theorem to_unsafe {w:World}{b:Nat}{p v:Value}{T:Nat}(hb:w.heap[b]? = some (.cells #[p,v] T (0,0))):(convert 123 205 (.pointer (some ⟨b,0,none⟩))).run Tryz.prog w = .ok (.pointer (some ⟨b,0,none⟩)) w:=by
 have h1:(Tryz.prog.info? 125).map (·.size)=some 2:=by kernel_rfl
 obtain⟨j,hj,hs⟩:=Option.map_eq_some_iff.1 h1
 exact Lib.run_to_unsafe w ⟨b,0,none⟩ underlying123 underlying205 hj (by rw [hs];decide) (shape_of hb) (by simp)
theorem from_unsafe {w:World}{b:Nat}{p v:Value}{T:Nat}(hT:QE T) (hb:w.heap[b]? = some (.cells #[p,v] T (0,0))):(convert 205 123 (.pointer (some ⟨b,0,none⟩))).run Tryz.prog w = .ok (.pointer (some ⟨b,0,none⟩)) w:=by
 have h1:(Tryz.prog.info? 125).map (·.size)=some 2:=by kernel_rfl
 obtain⟨j,hj,_⟩:=Option.map_eq_some_iff.1 h1
 exact Lib.run_from_unsafe w ⟨b,0,none⟩ underlying205 underlying123 hj (shape_of hb) hT
theorem Zz {T:Nat}(hT:QE T) {w:World}{b:Nat}{p v:Value}(hp:p = .pointer none∨p = .pointer (some ⟨b,0,none⟩)) (hb:w.heap[b]? = some (.cells #[p,v] T (0,0))) :
  Calls Tryz.prog 119 #[.pointer (some ⟨b,0,none⟩)] w fun e w'=>e = .returned (.tuple #[])∧w'.heap[b]? = some (.cells #[.pointer (some ⟨b,0,none⟩),v] T (0,0))∧zb [b] w w':=by
 have HB:=qI hb
 have c0:=za (o:=0) (v:=p) hb rfl
 have f0:=zh (o:=0) hb
 have e1:=to_unsafe hb
 have e2:=from_unsafe hT hb
 clear hb
 rcases hp with rfl | rfl
 ·go_enter func119,ntmps119
  go_wp2_with fail
  rw [run_callFunc_extern func155 (by kernel_rfl) (by kernel_rfl) (by kernel_rfl) (e:=Extern.AbiNoEscape.same) (by kernel_rfl)]
  rw [Lib.run_noEscape]
  simp only [Result.andThen]
  rw [Oper.upon_value]
  go_wp2_with fail
  go_end0
  exact⟨rfl,ze HB.o rfl,(zb.refl _ _).setCell (.inl (by simp)) _⟩
 ·have e3:=ptr_same w b
  go_enter func119,ntmps119
  go_wp2_with fail
  go_end0
  exact⟨rfl,HB.o,zb.refl _ _⟩
theorem ZU:yR Tryz.prog 53 5 1 1 (.int .u8 0):=⟨underlying53,by kernel_rfl,rfl,by decide⟩
theorem BW.opened {T:Nat}{W:World}{b:Nat}{w:World}{l:List UInt8}(h:BW T W b w l):∃ p a c,(p = .pointer none∨p = .pointer (some ⟨b,0,none⟩))∧w.heap[b]? = some (.cells #[p,.slice a l.length c] T (0,0))∧w.ownsRow W.heap.size 5 1 (.slice a l.length c) l.length (l.map bv):=by
 obtain⟨p,v,hp,hb,hr⟩:=h.blk
 obtain⟨a,c,rfl,-,-⟩:=(Slc.of_row hr).form
 exact⟨p,a,c,hp,hb,hr⟩
theorem BW.wrote {T:Nat}{W:World}{b:Nat}{w w1 w2:World}{l l':List UInt8}{a a':Option Addr}{c n' c':Nat}(h:BW T W b w l) (hr:w.ownsRow W.heap.size 5 1 (.slice a l.length c) l.length (l.map bv))
  (hb1:w1.heap[b]? = some (.cells #[.pointer (some ⟨b,0,none⟩),.slice a l.length c] T (0,0))) (hk1:zb [b] w w1) (hr2:w2.ownsRow W.heap.size 5 1 (.slice a' n' c') n' (l'.map bv)) (hn:l'.length=n') (hk2:zb (Value.slice a l.length c).ownBlock.toList w1 w2) :
  w2.cell? ⟨b,1,none⟩=some (.slice a l.length c)∧w2.frozen? ⟨b,1,none⟩=false∧BW T W b (w2.setCell ⟨b,1,none⟩ (.slice a' n' c')) l'∧zU b w (w2.setCell ⟨b,1,none⟩ (.slice a' n' c')):=by
 subst hn
 have hlt:=h.lt
 have hnb:b ∉ (Value.slice a l.length c).ownBlock.toList:=fun hx=>by
  have:=(hr.lt _ (Option.mem_toList.1 hx)).1;omega
 have hb2:=hk2.heap hb1 hnb
 have kX:zb (b :: (Value.slice a l.length c).ownBlock.toList) w (w2.setCell ⟨b,1,none⟩ (.slice a' l'.length c')):=
  ((hk1.mono (Y:=b :: (Value.slice a l.length c).ownBlock.toList) (by simp)).trans' (hk2.mono (fun i hi=>List.mem_cons_of_mem _ hi))).setCell (p:=⟨b,1,none⟩) (.inl (List.mem_cons_self ..)) _
 refine⟨za hb2 rfl,zh hb2,⟨⟨_,_,.inr rfl,ze hb2 rfl,?_⟩,?_,hlt⟩,zU.of kX ?_⟩
 ·exact zk hr2 ((zb.refl [b] w2).setCell (p:=⟨b,1,none⟩) (.inl (by simp)) _) (fun g hg hx=>by
   simp at hx;have:=(hr2.lt g hg).1;omega)
 ·exact h.kept.trans kX (fun i hi=>by
   rcases List.mem_cons.1 hi with rfl | hi
   ·exact .inl (by simp)
   ·exact .inr (hr.lt i (Option.mem_toList.1 hi)).1)
 ·intro k hk
  rcases List.mem_cons.1 hk with rfl | hk
  ·exact .inl rfl
  ·exact .inr (yd hr (Option.mem_toList.1 hk))
theorem xI {T:Nat}(hT:QE T) {W w:World}{b:Nat}{l:List UInt8}(h:BW T W b w l) (hl:l.length≤100000000) (x:UInt8) :
  Calls Tryz.prog 83 #[.pointer (some ⟨b,0,none⟩),.int .u8 x.toNat] w fun e w'=>e = .returned .nilIface∧BW T W b w' (l ++ [x])∧zU b w w':=by
 obtain⟨p,a,c,hp,hb,hr⟩:=h.opened
 have H:=qI h
 have HR:=qI hr
 have CC:=qI (Zz hT hp hb)
 have Gh:Hid (b < W.heap.size∧W.heap.size≤w.heap.size):=qI ⟨h.lt,h.kept.size⟩
 clear h hp hb hr
 go_enter func83,ntmps83
 go_wp2_with (first
  | (go_at_call 119;refine CC.o.mono ?_;rintro e w1 ⟨rfl,hb1,hk1⟩;have c1:=za (o:=1) (v:=.slice a l.length c) hb1 rfl;have Jg:=qI hb1;have Gb:=qI hk1;clear hb1 hk1)
  | (at_builtin;refine zj ZU (zk HR.o (Gb.o.then ((zb.refl [] w1).alloc (.cells #[.int .u8 x.toNat] 5))) (by intro g hg hx;have h1:=(HR.o.lt g hg).1;have h2:=Gh.o;simp at hx;omega)) (jl w1 (bv x) 5 _ rfl) (by simp [bv,Value.oneCell']) (by simp only [maxLen];omega) (by omega) (by have h1:=Gh.o;have h2:=Gb.o.size;simp;omega) rfl _ _ rfl rfl rfl ?_;intro v2 w2 hown2 hk2 _ hb2;obtain⟨a2,c2,rfl,-,-⟩:=(Slc.of_row hown2).form;obtain⟨g1,g2,g3,g4⟩:=BW.wrote (l':=l ++ [x]) H.o HR.o (((zb.refl [] w1).alloc (.cells #[.int .u8 x.toNat] 5)).heap Jg.o (by simp)) (Gb.o.then ((zb.refl [] w1).alloc (.cells #[.int .u8 x.toNat] 5))) (by rw [List.map_append];exact hown2) (by simp) hk2;have G3:=qI g3;have G4:=qI g4;clear hown2 hk2 hb2 g3 g4))
 go_ret
 exact⟨rfl,G3.o,G4.o⟩
theorem kZ {T:Nat}(hT:QE T) {W w:World}{b:Nat}{l:List UInt8}(h:BW T W b w l) (hl:l.length≤100000000) (s:ByteArray) (hs:s.size≤100000000) :
  Calls Tryz.prog 182 #[.pointer (some ⟨b,0,none⟩),.string s] w fun e w'=>e = .returned (.tuple #[.int .i64 s.size,.nilIface])∧BW T W b w' (l ++ s.data.toList)∧zU b w w':=by
 obtain⟨p,a,c,hp,hb,hr⟩:=h.opened
 obtain⟨i0,hi,hz0,hz1,hz2⟩:=info_parts ZU.info
 have H:=qI h
 have HR:=qI hr
 have HI:=qI hi
 have HZ:=qI (And.intro hz0 (And.intro hz1 hz2))
 have CC:=qI (Zz hT hp hb)
 have Gh:Hid (b < W.heap.size∧W.heap.size≤w.heap.size):=qI ⟨h.lt,h.kept.size⟩
 have HL:Hid (s.data.toList.length=s.size):=qI (by simp)
 clear h hp hb hr hi hz0 hz1 hz2
 go_enter func182,ntmps182
 go_wp2_with (first
  | (go_at_call 119;refine CC.o.mono ?_;rintro e w1 ⟨rfl,hb1,hk1⟩;have c1:=za (o:=1) (v:=.slice a l.length c) hb1 rfl;have Jg:=qI hb1;have Gb:=qI hk1;clear hb1 hk1)
  | (at_builtin;refine Lib.wpList_append_own_string _ rfl _ _ 53 9 rfl W.heap.size 5 i0 underlying53 underlying9 HI.o HZ.o.1 HZ.o.2.1 HZ.o.2.2 (.slice a l.length c) l.length (l.map bv) rfl (zk HR.o Gb.o (by intro g hg hx;have h1:=(HR.o.lt g hg).1;have h2:=Gh.o;simp at hx;omega)) s rfl (by simp only [maxLen];omega) (by omega) (by have h1:=Gh.o;have h2:=Gb.o.size;omega) ?_;intro v2 w2 hown2 hg2 _;obtain⟨a2,c2,rfl,-,-⟩:=(Slc.of_row hown2).form;obtain⟨g1,g2,g3,g4⟩:=BW.wrote (l':=l ++ s.data.toList) H.o HR.o Jg.o Gb.o (by rw [List.map_append];exact hown2) (by rw [List.length_append,HL.o]) ((zb.refl _ _).grown hg2 (fun k e=>.inl (by simp [e])));have G3:=qI g3;have G4:=qI g4;clear hown2 hg2 g3 g4))
 go_ret2
 exact⟨rfl,G3.o,G4.o⟩
theorem Qq {w:World}{g:Nat}(n:Nat):zb [g] w (w.freeze ⟨g,0,none⟩ n):=by
 have h:=Lib.below_freeze (Below.refl 0 w) (p:=⟨g,0,none⟩) (Nat.zero_le _) n
 refine⟨h.os,h.tape,h.output,h.size,fun k hk hx=>?_⟩
 unfold World.freeze
 split
 ·rfl
 ·simp only [Array.getElem?_modify]
  rw [if_neg (by simp at hx;omega)]
theorem bM {T:Nat}{W w:World}{b:Nat}{l:List UInt8}(h:BW T W b w l) (hl:l.length≤100000000) (h0:l≠[]) :
  Calls Tryz.prog 84 #[.pointer (some ⟨b,0,none⟩)] w fun e w'=>e = .returned (.string (yc l))∧zb [b] W w'∧zU b w w':=by
 obtain⟨p,a,c,hp,hb,hr⟩:=h.opened
 have Gh:Hid (b < W.heap.size∧W.heap.size≤w.heap.size):=qI ⟨h.lt,h.kept.size⟩
 have Gx:=qI h.kept
 have c1:=za (o:=1) (v:=.slice a l.length c) hb rfl
 have hl0:l.length≠0:=by simpa using h0
 obtain⟨g,cap,cur,hv,hg,hbg,hnc,hcm,hcs,htake⟩:∃ g cap cur,(Value.slice a l.length c) = .slice (some ⟨g,0,none⟩) l.length cap∧W.heap.size≤g∧w.heap[g]? = some (.cells cur 5 (0,0))∧l.length≤cap∧cap≤maxLen∧cur.size=cap * 1∧cur.toList.take (l.length * 1)=l.map bv:=by
  rcases hr.2 with ⟨_,hz⟩ | ⟨g,cap,cur,hv,r1,r2,r3,r4,r5,r6⟩
  ·exact absurd hz hl0
  ·exact⟨g,cap,cur,hv,r1,r2,r3,r4,r5,r6⟩
 simp only [Value.slice.injEq] at hv
 obtain⟨rfl,-,rfl⟩:=hv
 have hrow:∀ j x,l[j]? = some x→w.drew.cell? ((⟨g,0,none⟩:Addr).add j)=some (.int .u8 x.toNat):=by
  intro j x hx
  have h2:=(Slc.of_row hr).2
  rcases h2 with ⟨h3,_⟩ | ⟨h3,_⟩ | ⟨g',o',cap',hv',_,_,hrow⟩
  ·cases h3
  ·exact absurd h3 hl0
  ·simp only [Value.slice.injEq,Option.some.injEq,Addr.mk.injEq] at hv'
   obtain⟨⟨rfl,rfl,-⟩,-,-⟩:=hv'
   exact hrow.adds j (bv x) (by simp [hx])
 have hSD:∀ W':World,(Builtin.unsafeSliceData_ #[53] 168 #[.slice (some ⟨g,0,none⟩) l.length c]).run Tryz.prog W' = .ok (.pointer (some ⟨g,0,none⟩)) W':=fun W'=>Lib.run_unsafeSliceData_row _ _ _ _ _ _ (by omega)
 have hUS:(Builtin.unsafeString_ #[168,3] 9 #[.pointer (some ⟨g,0,none⟩),.int .i64 l.length]).run Tryz.prog w.drew = .ok (.string (yc l)) (w.drew.freeze ⟨g,0,none⟩ l.length):=
  Lib.run_unsafeString_row w.drew 168 3 9 5 underlying168 (by kernel_rfl) g cur.size (by have hg':w.drew.heap[g]? = some (.cells cur 5 (0,0)):=hbg;simp [World.shape?,hg']) l h0 (by omega) (by omega) hrow
 have HK:Hid (zb [g] w (w.drew.freeze ⟨g,0,none⟩ l.length)):=qI ((zb.refl [g] w).drew.trans' (Qq l.length))
 have HG:Hid (W.heap.size≤g∧kind w g=5 + 2):=qI ⟨hg,zH hbg⟩
 have Mb:=qI hSD
 have Jh:=qI hUS
 have hgb:b≠g:=by have:=Gh.o;omega
 clear h hp hb hr hbg hnc hcm hcs htake hrow hl0 hSD hUS hg h0
 go_enter func84,ntmps84
 go_wp2_with fail
 refine zr (n:=12) (fun w':World=>w'.cell? ⟨b,1,none⟩=some (.slice (some ⟨g,0,none⟩) l.length c)) 11 (by kernel_rfl) (by kernel_rfl) ?_
 change zM _ _ _ _ _ _ _ _ _ w.drew
 have hSS:(fun w':World=>w'.cell? ⟨b,1,none⟩=some (.slice (some ⟨g,0,none⟩) l.length c)) w.drew:=c1
 clear c1
 revert hSS Jh HK
 generalize w.drew=W2
 intro HK Jh hSS
 refine zG ?_
 intro O R hO hR
 have hQp:∀ c a (d:Nat) v w,R (.panic c) (a.put (some d) v) w→R (.panic c) a w:=by subst hR;exact fun _ _ _ _ _ h=>h
 refine qT 0 ?_ hO rfl rfl (by kernel_rfl) hQp (fun w hSw=>?_) hSS ?_
 rotate_left
 ·go_simp;try with_reducible rfl
 try simp only [zA,zN,zB,zC,zD]
 refine qT 1 ?_ hO rfl rfl (by kernel_rfl) hQp (fun w hSw=>?_) hSS ?_
 rotate_left
 ·go_simp;try with_reducible rfl
 try simp only [zA,zN,zB,zC,zD]
 refine qT 2 ?_ hO rfl rfl (by kernel_rfl) hQp (fun w hSw=>?_) hSS ?_
 rotate_left
 ·go_simp;try with_reducible rfl
 try simp only [zA,zN,zB,zC,zD]
 refine qT 3 ?_ hO rfl rfl (by kernel_rfl) hQp (fun w hSw=>?_) hSS ?_
 rotate_left
 ·go_simp;try with_reducible rfl
 try simp only [zA,zN,zB,zC,zD]
 refine qT 5 ?_ hO rfl rfl (by kernel_rfl) hQp (fun w hSw=>?_) hSS ?_
 rotate_left
 ·go_simp;try with_reducible rfl
 try simp only [zA,zN,zB,zC,zD]
 refine qT 6 ?_ hO rfl rfl (by kernel_rfl) hQp (fun w hSw=>?_) hSS ?_
 rotate_left
 ·go_simp;try with_reducible rfl
 try simp only [zA,zN,zB,zC,zD]
 refine qT 7 ?_ hO rfl rfl (by kernel_rfl) hQp (fun w hSw=>?_) hSS ?_
 rotate_left
 ·go_simp;try with_reducible rfl
 try simp only [zA,zN,zB,zC,zD]
 refine qT 8 ?_ hO rfl rfl (by kernel_rfl) hQp (fun w hSw=>?_) hSS ?_
 rotate_left
 ·go_simp;try with_reducible rfl
 try simp only [zA,zN,zB,zC,zD]
 refine qT 9 ?_ hO rfl rfl (by kernel_rfl) hQp (fun w hSw=>?_) hSS ?_
 rotate_left
 ·go_simp;try with_reducible rfl
 try simp only [zA,zN,zB,zC,zD]
 have hSD:=Mb.o
 refine qT 4 ?_ hO rfl rfl (by kernel_rfl) hQp (fun w hSw=>?_) hSS ?_
 rotate_left
 ·go_simp;try with_reducible rfl
 try simp only [zA,zN,zB,zC,zD]
 have hUS:=Jh.o
 refine qO 10 hO rfl (by kernel_rfl) (fun K hK=>?_)
 go_simp
 have hS2:(fun w':World=>w'.cell? ⟨b,1,none⟩=some (.slice (some ⟨g,0,none⟩) l.length c)) (W2.freeze ⟨g,0,none⟩ l.length):=(Qq l.length).cell hSS (by simpa using hgb)
 refine hK _ _ (.inr hS2) ?_
 clear hK K
 try simp only [zA,zN,zB,zC,zD]
 clear hSS
 have hSS:=hS2
 clear hS2 hSD hUS
 refine qO 11 hO rfl (by kernel_rfl) (fun K hK=>?_)
 go_simp
 refine hK _ _ (.inl rfl) ?_
 clear hK K
 try simp only [zA,zN,zB,zC,zD]
 refine zE hO (by kernel_rfl) ?_ _
 subst hR
 try clear hQp hO O
 go_wp2_with fail
 go_ret
 refine⟨rfl,Gx.o.trans HK.o (fun i hi=>by simp at hi;subst hi;exact .inr HG.o.1),zU.of HK.o (fun i hi=>by simp at hi;subst hi;exact .inr HG.o.2)⟩
end Go.Proofs.YtibnfbglanpoiaaGreatDoor

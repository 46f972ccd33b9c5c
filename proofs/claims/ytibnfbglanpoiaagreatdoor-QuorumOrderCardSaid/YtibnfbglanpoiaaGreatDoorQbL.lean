/- Parts of one proof, merged: XJH XJI XK3C XBu. -/
import Derived.Test.YtibnfbglanpoiaaGreatDoorQbK
import Derived.Test.YtibnfbglanpoiaaGreatDoorQbI
import Derived.Test.YtibnfbglanpoiaaGreatDoorQbC
import Derived.Laws.BytesArg
import Derived.Lib.UnsafeStr
import Derived.Lib.AppendStr
import Derived.Test.YtibnfbglanpoiaaGreatDoorQbE
set_option linter.all false
set_option maxHeartbeats 12800000
set_option maxRecDepth 10000
set_option linter.unusedVariables false
set_option linter.unusedSimpArgs false
set_option linter.unnecessarySimpa false
namespace Go.Proofs.YtibnfbglanpoiaaGreatDoor
open Go.Proofs.Tryz
open Go.RowKit
theorem bp:∀ (k:Nat) (s:S8) (a b:List UInt8),a.length≤k→ke s (a ++ b)=ke (ke s a).1 ((ke s a).2 ++ b)
 | 0,s,a,b,h=>by
  have:a=[]:=List.eq_nil_of_length_eq_zero (by omega)
  subst this
  rw [jd s [] (by simp)]
 | k + 1,s,a,b,h=>by
  rcases Nat.lt_or_ge a.length 64 with h64 | h64
  ·rw [jd s a h64]
  ·rw [jS s (a ++ b) (by simp;omega),jS s a h64,List.take_append_of_le_length h64,List.drop_append_of_le_length h64]
   exact bp k _ _ _ (by simp;omega)
def Z8 (r m:Nat):List UInt8:=[128] ++ (List.replicate ((119 - r) % 64) 0 ++ qE (8 * m) 8)
def S8.get (s:S8) (j:Nat):Int:=s.list.getD j 0
def outB (s:S8) (i:Nat):UInt8:=UInt8.ofNat ((s.get (i / 4)) / 2 ^ (24 - 8 * (i % 4)) % 256).toNat
def j9 (s:S8):List UInt8:=(List.range 32).map (outB s)
theorem kb (s:S8):(j9 s).length=32:=by simp [j9]
def zW (l:List UInt8):List UInt8:=j9 (ke zr (l ++ Z8 (l.length % 64) l.length)).1
theorem yh (l:List UInt8):(zW l).length=32:=kb _
theorem bv_outB (s:S8) (i:Nat):bv (outB s i) = .int .u8 ((s.get (i / 4)) / 2 ^ (24 - 8 * (i % 4)) % 256):=by
 rw [outB,ZF]
 congr 1
 omega
def yZ (s:S8) (k:Nat):List UInt8:=(List.range 32).map (fun i=>if i < k then outB s i else 0)
theorem zX (s:S8) (k:Nat):(yZ s k).length=32:=by simp [yZ]
theorem outK_all (s:S8):yZ s 32=j9 s:=by
 apply List.map_congr_left
 intro i hi
 rw [if_pos (List.mem_range.1 hi)]
theorem outK_set (s:S8) (k:Nat) (hk:k < 32):((yZ s k).map bv).toArray.setIfInBounds k (.int .u8 ((s.get (k / 4)) / 2 ^ (24 - 8 * (k % 4)) % 256))=((yZ s (k + 1)).map bv).toArray:=by
 rw [← bv_outB,List.setIfInBounds_toArray]
 congr 1
 apply List.ext_getElem
 ·simp [yZ]
 ·intro i h1 h2
  rw [List.getElem_set]
  by_cases e:k=i
  ·subst e;simp [yZ]
  ·rw [if_neg e]
   simp only [yZ,List.getElem_map,List.getElem_range]
   congr 1
   by_cases h:i < k
   ·rw [if_pos h,if_pos (by omega)]
   ·rw [if_neg h,if_neg (by omega)]
theorem yp.st {w:World}{p:Nat}{s:S8}{v:Value}{n:Int}(h:yp w p s v n) (j:Nat) (hj:j < 8):w.cell? ⟨p,j,none⟩=some (.int .u32 (s.get j)):=by
 obtain⟨y0,y1,y2,y3,y4,y5,y6,y7,-,-⟩:=h.c
 obtain rfl | rfl | rfl | rfl | rfl | rfl | rfl | rfl:j=0∨j=1∨j=2∨j=3∨j=4∨j=5∨j=6∨j=7:=by omega
 all_goals assumption
def z32:Array Value:=#[.int .u8 0,.int .u8 0,.int .u8 0,.int .u8 0,.int .u8 0,.int .u8 0,.int .u8 0,.int .u8 0,.int .u8 0,.int .u8 0,.int .u8 0,.int .u8 0,.int .u8 0,.int .u8 0,.int .u8 0,.int .u8 0,.int .u8 0,.int .u8 0,.int .u8 0,.int .u8 0,.int .u8 0,.int .u8 0,.int .u8 0,.int .u8 0,.int .u8 0,.int .u8 0,.int .u8 0,.int .u8 0,.int .u8 0,.int .u8 0,.int .u8 0,.int .u8 0]
def ya (w:World) (g:Nat) (l:List UInt8):Prop:=w.heap[g]? = some (.cells (l.map bv).toArray 45 (0,0))
theorem ya.range {w:World}{g:Nat}{l:List UInt8}(h:ya w g l):w.rangeAt g 0 (l.map bv):=fun j v hv=>by
 rw [Nat.zero_add];exact za h (by simpa using hv)
theorem ya.there {w:World}{g:Nat}{l:List UInt8}(h:ya w g l) (n:Nat) (hn:l.length=n):w.there g 0 n:=fun j hj=>by
 rw [Nat.zero_add]
 exact⟨by rw [za (v:=bv (l[j]'(by omega))) h (by rw [List.getElem?_toArray,List.getElem?_map,List.getElem?_eq_getElem (by omega)];rfl)];rfl,zh h⟩
theorem ya.lt {w:World}{g:Nat}{l:List UInt8}(h:ya w g l):g < w.heap.size:=lt_of_block h
theorem ya.put {w:World}{g:Nat}{l l':List UInt8}(h:ya w g l) (hl:l'.length=l.length):ya (w.setCells g 0 (l'.map bv)) g l':=by
 obtain⟨cur,h1,h2,h3⟩:=yY g (l'.map bv) 0 w _ h
 have e:cur=(l'.map bv).toArray:=by
  apply Array.ext
  ·rw [h2];simp [hl]
  ·intro i hi1 hi2
   have hi3:i < l.length:=by rw [h2] at hi1;simpa using hi1
   have h4:=h3 i (by simpa using hi3)
   rw [if_pos (by simp;omega),Array.getElem?_eq_getElem hi1] at h4
   rw [Nat.sub_zero,List.getElem?_eq_getElem (by simp;omega)] at h4
   rw [Option.some.inj h4]
   simp
 unfold ya
 rw [h1,e]
theorem xS:(Tryz.prog.info? 45).map (·.size)=some 32:=by kernel_rfl
theorem one32 (l:List UInt8):(l.map bv).toArray.all (·.oneCell')=true:=all_oneCell_toArray (yW l)
theorem bT {w:World}(h:xb w):0 < w.heap.size:=World.block_lt_of_cell? w _ (h 0 _ rfl)
theorem sum_any (w:World) (p:Nat) (s:S8) (v:Value) (l:List UInt8) (m:Nat) (h:yp w p s v m) (hb:zo w v l) (hl:l.length < 64) (hm:m≤100000000000) (hks:xb w) :
  Calls Tryz.prog 118 #[.pointer (some ⟨p,0,none⟩)] w fun e w'=>e = .returned (.agg ((j9 (ke s (l ++ Z8 l.length m)).1).map bv).toArray)∧zb [] w w':=by
 have HH:=qI h
 have HB:=qI hb
 have Gt:=qI hks
 have HM:=qI hm
 have hlI:(l.length:Int) < 64:=by omega
 have HL:=qI hl
 clear h hb hks hm hl
 go_enter func118,ntmps118
 go_upto_region 4 with fail
 change Code.wp _ _ _ _ ((w.alloc (.cells z32 45)).alloc (.cells z32 45))
 obtain⟨W1,Gc⟩:∃ W1,Hid (W1=(w.alloc (.cells z32 45)).alloc (.cells z32 45)):=⟨_,qI rfl⟩
 have Ga:Hid (zb [] w W1):=qI (by rw [Gc.o];exact ((zb.refl _ w).alloc _).alloc _)
 have Gu:Hid (ya W1 w.heap.size (yZ s 0)):=qI (by rw [Gc.o];exact ((zb.refl [] _).alloc _).heap (zd rfl) (by simp))
 have Jj:Hid (ya W1 (w.heap.size + 1) (yZ s 0)):=qI (by rw [Gc.o];exact zd (by simp))
 have Jk:Hid (W1.heap.size=w.heap.size + 2):=qI (by rw [Gc.o];simp)
 rw [← Gc.o]
 have CF:=qI (fork_any W1 p s v l m (HH.o.kept Ga.o (by simp)) (HB.o.kept0 Ga.o) (by have:=HL.o;unfold lim;omega))
 obtain⟨z,HZ⟩:∃ z,Hid (z=(119 - l.length) % 64):=⟨_,qI rfl⟩
 have hz64:z < 64:=by rw [HZ.o];omega
 have ez:((119 - (l.length:Int)) % 64)=(z:Int):=by rw [HZ.o];omega
 have hmk:∀ W:World,(Instr.makeSlice 53 (.int .i64 z) (.int .i64 z)).run Tryz.prog W = .ok (.slice (some ⟨W.heap.size,0,none⟩) z z) (W.alloc (.cells (madeCells #[.int .u8 0] z) 5)):=fun W=>Z1 W z (by unfold lim;omega)
 have CP:Hid (∀ W:World,Calls Tryz.prog 80 #[.int .i64 (8 * (m:Int)),.int .i64 8] W fun e w'=>∃ v,e = .returned (.tuple #[v,.int .i64 0])∧xG W w' v (qE (8 * m) 8)∧zb [] W w'):=qI fun W=>by
  have h1:=Zp (8 * m) 8 W (by decide) (by decide) (.inl rfl)
  rwa [show ((8 * m:Nat):Int)=8 * (m:Int) by omega] at h1
 have hmI:(m:Int)≤100000000000:=by have:=HM.o;omega
 go_upto_region 6 with (go_at_call 154;refine CF.o.mono ?_;rintro e w2 ⟨q,v',rfl,hq,hh2,hb2,hv2,hk2⟩;obtain⟨av,cv,rfl,-,-⟩:=hb2.form;have HQ:=qI hq;have Gi:=qI hh2;have Jl:=qI hb2;have Jm:=qI hv2;have Ge:=qI hk2;have x8:=hh2.c.2.2.2.2.2.2.2.2.1;clear hq hh2 hb2 hv2 hk2)
 have x9:=((HH.o.kept Ga.o (by simp)).kept Ge.o (by simp)).c.2.2.2.2.2.2.2.2.2
 have hwr:wrap64 (8 * (m:Int))=8 * (m:Int):=by unfold wrap64;omega
 clear x8
 go_upto_region 7 with (go_at_call 80;refine (CP.o _).mono ?_;rintro e w3 ⟨v3,rfl,hnb3,hk3⟩;obtain⟨a3,c3,rfl,-,-⟩:=hnb3.1.form;rw [yI] at hnb3 ⊢;have Gy:=qI hnb3;have Gj:=qI hk3;clear hnb3 hk3 x9)
 obtain⟨W4,Gk⟩:∃ W4,Hid (W4=(w3.alloc (.cells #[.int .u8 128] 5)).alloc (.cells (madeCells #[.int .u8 0] z) 5)):=⟨_,qI rfl⟩
 have Gd:Hid (zb [] w3 W4):=qI (by rw [Gk.o];exact ((zb.refl _ w3).alloc _).alloc _)
 have Jn:Hid (zo W4 (.slice (some ⟨w3.heap.size,0,none⟩) 1 1) [128]):=qI (by rw [Gk.o];exact (jA w3 (bv 128) _ _ rfl).kept0 ((zb.refl [] _).alloc _))
 have Gz:Hid (zo W4 (.slice (some ⟨w3.heap.size + 1,0,none⟩) z z) (List.replicate z 0)):=qI (by
  have h1:=Slc.of_row (ZU (w3.alloc (.cells #[.int .u8 128] 5)) 0 z (by unfold lim;omega) (Nat.zero_le _))
  rw [Gk.o]
  have e1:(w3.alloc (.cells #[.int .u8 128] 5)).heap.size=w3.heap.size + 1:=by simp
  rw [e1] at h1
  unfold zo
  rw [List.length_replicate]
  exact h1)
 have Jo:Hid (zo W4 (.slice a3 8 c3) (qE (8 * m) 8)):=qI (Gy.o.1.kept0 Gd.o)
 have Jp:Hid (W4.heap.size=w3.heap.size + 2):=qI (by rw [Gk.o];simp)
 obtain⟨W5,Ja⟩:∃ W5,Hid (W5=W4.alloc (.cells #[.slice (some ⟨w3.heap.size,0,none⟩) 1 1,.slice (some ⟨w3.heap.size + 1,0,none⟩) z z,.slice a3 8 c3] 53)):=⟨_,qI rfl⟩
 have Gb:Hid (zb [] W4 W5):=qI (by rw [Ja.o];exact (zb.refl _ W4).alloc _)
 have CC:Hid (Calls Tryz.prog 152 #[.slice (some ⟨w3.heap.size + 1 + 1,0,none⟩) 3 3] W5 fun e w'=>∃ v',e = .returned v'∧xG W5 w' v' (Z8 l.length m)∧zb [] W5 w'):=qI (by
  have hrow:Row W5 W4.heap.size 0 [.slice (some ⟨w3.heap.size,0,none⟩) 1 1,.slice (some ⟨w3.heap.size + 1,0,none⟩) z z,.slice a3 8 c3]:=by rw [Ja.o];exact Zy W4 _ _
  have h1:=concat3 W4.heap.size 3 _ _ _ [128] (List.replicate z 0) (qE (8 * m) 8) W5 hrow (Jn.o.kept0 Gb.o) (Gz.o.kept0 Gb.o) (Jo.o.kept0 Gb.o) (by rw [yI];simp [lim];omega)
  rw [Jp.o] at h1
  rw [HZ.o] at h1
  exact h1)
 have hpl:Hid ((Z8 l.length m).length=9 + z):=qI (by simp [Z8,yI,HZ.o];omega)
 obtain⟨R,HR⟩:∃ R,Hid (R=ke s (l ++ Z8 l.length m)):=⟨_,qI rfl⟩
 have Gv:Hid (zb [] w W5):=qI (((Ga.o.then Ge.o).then Gj.o).then (Gd.o.then Gb.o))
 have Gl:Hid (w.heap.size + 2≤q):=qI (by have:=HQ.o;have:=Jk.o;omega)
 have Jb:=qI (bT Gt.o)
 go_upto_region 8 with first
  | (go_at_call 152;rw [← Gk.o,← Ja.o];refine CC.o.mono ?_;rintro e w6 ⟨v6,rfl,hnb6,hk6⟩;obtain⟨a6,c6,rfl,-,-⟩:=hnb6.1.form;have Gm:=qI hnb6;have Gn:=qI hk6;clear hnb6 hk6)
  | (go_at_call 117;refine (ZZ w6 q s (.slice av l.length cv) (.slice a6 (Z8 l.length m).length c6) l (Z8 l.length m) m (Gi.o.kept (((Gj.o.then Gd.o).then Gb.o).then Gn.o) (by simp)) (Jl.o.kept0 (((Gj.o.then Gd.o).then Gb.o).then Gn.o)) (fun g hg=>?_) Gm.o.1 (fun g hg=>?_) (Nat.le_of_lt HL.o) (by rw [hpl.o];omega) (by omega) (by have:=HM.o;omega) (Gt.o.kept0 (Gv.o.then Gn.o)) (by have:=Jb.o;have:=Gl.o;omega)).mono ?_)
 ·exact yH (Jm.o g hg).2 Gi.o.kd (by decide)
 ·have h1:=(Gm.o.2 g hg).1
  have h2:=Gi.o.lt
  have h3:=((Gj.o.then Gd.o).then Gb.o).size
  omega
 rintro e w7 ⟨rfl,hwr7⟩
 rw [← HR.o] at hwr7
 obtain⟨⟨v7,hh7,-,-⟩,hk7,-⟩:=hwr7
 have Jq:=qI hh7
 have Jr:Hid (zb [] w w7):=qI ((Gv.o.then Gn.o).trans hk7 (by intro i hi;simp at hi;subst hi;exact .inr (by have:=Gl.o;omega)))
 have Jg:Hid (zb [q] W1 w7):=qI (((Ge.o.then Gj.o).then ((Gd.o.then Gb.o).then Gn.o)).mono (by simp) |>.trans' hk7)
 have Js:Hid (ya w7 (w.heap.size + 1) (yZ R.1 0)):=qI (Jg.o.heap Jj.o (by have:=Gl.o;simp;omega))
 have Jt:Hid (ya w7 w.heap.size (yZ R.1 0)):=qI (Jg.o.heap Gu.o (by have:=Gl.o;simp;omega))
 clear hh7 hk7 hmk ez hz64
 go_wp2_with fail
 go_loopw [38] (fun i wr=>∃ k:Nat,i = .int .i64 k∧k≤32∧ya wr (w.heap.size + 1) (yZ R.1 k)∧ya wr w.heap.size (yZ R.1 0)∧yp wr q R.1 v7 (m + (Z8 l.length m).length)∧zb [] w wr) (fun i _=>32 - (intOf i).toNat)
 case atStart=>exact⟨0,rfl,Nat.zero_le _,Js.o,Jt.o,Jq.o,Jr.o⟩
 case round=>
  obtain⟨k,rfl,hk,ho,hr,hh,hkr⟩:=hrel
  have HO:=qI ho
  have Jc:=qI hr
  have Ju:=qI hh
  have Gf:=qI hkr
  rcases Nat.lt_or_ge k 32 with h32 | h32
  ·have h32I:(k:Int) < 32:=by omega
   have c0:=hh.st (k / 4) (by omega)
   have o0:=za (o:=k) (v:=bv ((yZ R.1 k)[k]'(by rw [zX];exact h32))) ho (by rw [List.getElem?_toArray,List.getElem?_map,List.getElem?_eq_getElem (by rw [zX];exact h32)];rfl)
   have f0:=zh (o:=k) ho
   clear ho hr hh hkr
   go_wp2_with fail
   case roundEnd=>
    have hst:zb [w.heap.size + 1] wr (wr.setCell ⟨w.heap.size + 1,k,none⟩ (.int .u8 (R.1.get (k / 4) / 2 ^ (24 - 8 * (k % 4)) % 256))):=(zb.refl _ _).setCell (.inl (by simp)) _
    exact⟨⟨k + 1,by go_num,by omega,ze HO.o (outK_set R.1 k h32),hst.heap Jc.o (by simp),Ju.o.kept hst (by have:=Gl.o;simp;omega),Gf.o.setCell (.inr (by simp)) _⟩,by simp [intOf];omega⟩
  ·obtain rfl:k=32:=by omega
   clear ho hr hh hkr hmI hwr hlI
   rw [outK_all] at HO
   have hsz:((j9 R.1).map bv).toArray.size=32:=by simp [kb]
   go_upto_region 13 with fail
   refine wp_region_list ?_
   change wpList _ _ _ [_,_] _ _
   refine wpList_load_mid (by rfl) 45 (.tmp 3) (by rfl) (w.heap.size + 1) 0 (by rfl) ((j9 R.1).map bv) _ HO.o.range underlying45 rfl (by rw [List.length_map,kb];exact xS) ?_
   refine wpList_store_mid (by rfl) 45 (.tmp 2) (.tmp 57) (by rfl) w.heap.size 0 ((j9 R.1).map bv).toArray (by rfl) (by rfl) (by rw [hsz];exact Jc.o.there 32 (zX _ _)) (by rw [hsz];exact xS) (one32 _) ?_
   have hF:Hid (ya (wr.setCells w.heap.size 0 ((j9 R.1).map bv)) w.heap.size (j9 R.1)):=qI (Jc.o.put (by rw [kb,zX]))
   have hKF:Hid (zb [] w (wr.setCells w.heap.size 0 ((j9 R.1).map bv))):=qI (Gf.o.trans (zZ w.heap.size ((j9 R.1).map bv) 0 wr) (by intro i hi;simp at hi;subst hi;exact .inr (Nat.le_refl _)))
   revert hF hKF
   show _→_→wpList _ _ _ _ _ (wr.setCells w.heap.size 0 ((j9 R.1).map bv))
   generalize wr.setCells w.heap.size 0 ((j9 R.1).map bv)=WF
   intro hF hKF
   have hres:=run_loadVar_mid (P:=Tryz.prog) WF w.heap.size 0 45 ((j9 R.1).map bv) _ hF.o.range underlying45 rfl (by rw [List.length_map,kb];exact xS)
   rw [HR.o] at hres
   try simp only [zA,zN,zB,zC,zD]
   go_wp2_with fail
   exact bodyPost_ret (v:=.agg ((j9 (ke s (l ++ Z8 l.length m)).1).map bv).toArray) (by simp only [results,results118];simp [hres,Sem.run_bind,asAddr]) rfl ⟨rfl,hKF.o⟩
theorem QY:∀ (k:Nat) (s:S8) (l:List UInt8),l.length≤k→(ke s l).2.length=l.length % 64
 | 0,s,l,h=>by
  rw [jd s l (by omega)]
  show l.length=_
  omega
 | k + 1,s,l,h=>by
  rcases Nat.lt_or_ge l.length 64 with h64 | h64
  ·rw [jd s l h64]
   show l.length=_
   omega
  ·rw [jS s l h64,QY k _ _ (by simp;omega),List.length_drop]
   omega
theorem ya.kept {X:List Nat}{w w':World}{g:Nat}{l:List UInt8}(h:ya w g l) (k:zb X w w') (hg:g ∉ X):ya w' g l:=k.heap h hg
theorem ya.kept0 {w w':World}{g:Nat}{l:List UInt8}(h:ya w g l) (k:zb [] w w'):ya w' g l:=h.kept k (by simp)
theorem zt {ops:Array Oper}{rest:List Oper}{op:Oper}{a:Act}{w:World}{Q:Exit→Act→World→Prop}(hgd:op.guard=none) (x y:Operand) (ho:op.op = .store 45 x y) {g:Nat}{l l0:List UInt8}(h0:ya w g l0) (hl0:l0.length=32) (hl:l.length=32)
  (hx:a.eval x = .pointer (some ⟨g,0,none⟩)) (hy:a.eval y = .agg (l.map bv).toArray) (h:∀ w',ya w' g l→zb [g] w w'→wpList Tryz.prog ops Q rest (a.put op.dst undef) w'):wpList Tryz.prog ops Q (op :: rest) a w:=by
 have hsz:(l.map bv).toArray.size=32:=by simp [hl]
 refine wpList_store_mid hgd 45 x y ho g 0 (l.map bv).toArray hx hy (by rw [hsz];exact h0.there 32 hl0) (by rw [hsz];exact xS) (one32 _) (h _ ?_ (zZ _ _ _ _))
 exact h0.put (by rw [hl,hl0])
theorem yv {ops:Array Oper}{rest:List Oper}{op:Oper}{a:Act}{w:World}{Q:Exit→Act→World→Prop}(hgd:op.guard=none) (x:Operand) (ho:op.op = .load 45 x) {g:Nat}{l:List UInt8}(h0:ya w g l) (hl:l.length=32)
  (hx:a.eval x = .pointer (some ⟨g,0,none⟩)) (h:wpList Tryz.prog ops Q rest (a.put op.dst (.agg (l.map bv).toArray)) w):wpList Tryz.prog ops Q (op :: rest) a w:=
 wpList_load_mid hgd 45 x ho g 0 hx (l.map bv) _ h0.range underlying45 rfl (by rw [List.length_map,hl];exact xS) h
theorem ya.var {w:World}{g:Nat}{l:List UInt8}(h:ya w g l) (hl:l.length=32):(loadVar 45 ⟨g,0,none⟩).run Tryz.prog w = .ok (.agg (l.map bv).toArray) w:=run_loadVar_mid (P:=Tryz.prog) w g 0 45 (l.map bv) _ h.range underlying45 rfl (by rw [List.length_map,hl];exact xS)
structure bF (w:World) (q:Nat) (l:List UInt8) (wr:World):Prop where
 hash:∃ v,yp wr q (ke zr l).1 v l.length∧zo wr v (ke zr l).2∧∀ g,yj v=some g→g≠q
 kept:zb [] w wr
 res:ya wr w.heap.size (yZ zr 0)
 ks:xb wr
theorem of_any (w:World) (g o cap:Nat) (vals:List Value) (ls:List (List UInt8)) (hrow:Row w g o vals) (hall:zG (zo w) vals ls) (hsum:ls.flatten.length≤100000000) (hn:vals.length≤1000000) (hks:xb w) :
  Calls Tryz.prog 82 #[.slice (some ⟨g,o,none⟩) vals.length cap] w fun e w'=>e = .returned (.agg ((zW ls.flatten).map bv).toArray)∧zb [] w w':=by
 have Jd:=qI hrow
 have Gp:=qI hall
 have Gq:=qI hsum
 have HN:=qI hn
 have Gt:=qI hks
 have Jb:=qI (bT hks)
 have hnI:(vals.length:Int)≤1000000:=by omega
 have Jh:Hid (ls.length=vals.length):=qI hall.1.symm
 clear hrow hall hsum hks hn
 go_enter func82,ntmps82
 go_upto_region 1 with fail
 change Code.wp _ _ _ _ (w.alloc (.cells z32 45))
 obtain⟨W1,Gc⟩:∃ W1,Hid (W1=w.alloc (.cells z32 45)):=⟨_,qI rfl⟩
 have Ga:Hid (zb [] w W1):=qI (by rw [Gc.o];exact (zb.refl _ w).alloc _)
 have Gu:Hid (ya W1 w.heap.size (yZ zr 0)):=qI (by rw [Gc.o];exact zd rfl)
 rw [← Gc.o]
 go_wp2_with (go_at_call 116;refine (new_any W1).mono ?_;rintro e w2 ⟨q,rfl,hq,hh2,hk2⟩;have HQ:=qI hq;have Gi:=qI hh2;have Ge:=qI hk2;clear hq hh2 hk2)
 have Gw:Hid (w.heap.size < q):=qI (by have:=HQ.o;have:=Gu.o.lt;omega)
 go_loopw [5,9] (fun _ i wr=>∃ k:Nat,i = .int .i64 k∧k≤vals.length∧bF w q (ls.take k).flatten wr) (fun _ i _=>vals.length - (intOf i).toNat)
 case atStart=>exact⟨0,rfl,Nat.zero_le _,⟨⟨_,Gi.o,yV _ _,by simp [yj]⟩,Ga.o.then Ge.o,Ge.o.heap Gu.o (by simp),Gt.o.kept0 (Ga.o.then Ge.o)⟩⟩
 case round=>
  obtain⟨k,rfl,hk,⟨⟨v,hh,hb,hv⟩,hkr,hres,hkr2⟩⟩:=hrel
  have HH:=qI hh
  have HB:=qI hb
  have HV:=qI hv
  have Gf:=qI hkr
  have Gr:=qI hres
  have Gs:=qI hkr2
  have Gg:Hid ((ls.take k).flatten.length≤100000000):=qI (Nat.le_trans (kZ ls k) Gq.o)
  clear hh hb hv hkr hres hkr2
  rcases Nat.lt_or_ge k vals.length with hlt | hlt
  ·have hltI:(k:Int) < vals.length:=by omega
   have c0:=Gf.o.cell (Jd.o.at hlt) (by simp)
   have hlt2:k < ls.length:=by rw [Jh.o];exact hlt
   have Ji:Hid (zo wr vals[k] ls[k]):=qI ((Gp.o.2 k _ _ (List.getElem?_eq_getElem hlt) (List.getElem?_eq_getElem hlt2)).kept0 Gf.o)
   have Gx:Hid ((ls.take (k + 1)).flatten=(ls.take k).flatten ++ ls[k]):=qI (xH ls k hlt2)
   have Jv:Hid ((ls.take (k + 1)).flatten.length≤100000000):=qI (Nat.le_trans (kZ ls (k + 1)) Gq.o)
   have Jw:Hid (∀ g,yj vals[k]=some g→g≠q):=qI (fun g hg=>by
    have h1:=(Gp.o.2 k _ _ (List.getElem?_eq_getElem hlt) (List.getElem?_eq_getElem hlt2)).lt hg
    have h2:=Gw.o
    omega)
   have CW:Hid (Calls Tryz.prog 117 #[.pointer (some ⟨q,0,none⟩),vals[k]] wr fun e w'=>e = .returned (.int .i64 ls[k].length)∧bF w q (ls.take (k + 1)).flatten w'):=qI (by
    have h1:=ZZ wr q _ v vals[k] _ ls[k] _ HH.o HB.o HV.o Ji.o Jw.o (Nat.le_of_lt (ZG _ _)) (by have:=Jv.o;rw [Gx.o,List.length_append] at this;omega) (by omega) (by have:=Gg.o;omega) Gs.o (by have:=Jb.o;have:=Gw.o;omega)
    refine h1.mono ?_
    rintro e w' ⟨rfl,⟨v',hh',hb',hv'⟩,hk',hks'⟩
    rw [← bp _ zr _ ls[k] (Nat.le_refl _),← Gx.o] at hh' hb'
    refine⟨rfl,⟨v',?_,hb',fun g hg=>?_⟩,Gf.o.trans hk' (by intro i hi;simp at hi;subst hi;exact .inr (by have:=Gw.o;omega)),hk'.heap Gr.o (by have:=Gw.o;simp;omega),hks'⟩
    ·rw [Gx.o,List.length_append,Int.natCast_add]
     rw [← Gx.o]
     exact hh'
    ·have h2:=(hv' g hg).1
     have h3:=HH.o.lt
     omega)
   generalize hlk:ls[k].length=lk at CW
   clear hlk
   obtain⟨va,vn,vc,hvv,-,-⟩:∃ a n c,vals[k] = .slice a n c∧True∧True:=by
    obtain⟨a,c,h1,-,-⟩:=Ji.o.form
    exact⟨_,_,_,h1,trivial,trivial⟩
   rw [hvv] at c0 CW
   have e9:o + k * 1=o + k:=by omega
   clear hvv
   go_wp2_with (go_at_call 117;refine CW.o.mono ?_;rintro e w3 ⟨rfl,hr3⟩;have Jx:=qI hr3;clear hr3)
   case roundEnd=>exact⟨⟨k + 1,by go_num,by omega,Jx.o⟩,by simp [intOf];omega⟩
  ·obtain rfl:k=vals.length:=by omega
   have HT:Hid (ls.take vals.length=ls):=qI (by rw [← Jh.o];exact List.take_length)
   rw [HT.o] at HH HB Gg
   have CS:Hid (Calls Tryz.prog 118 #[.pointer (some ⟨q,0,none⟩)] wr fun e w'=>e = .returned (.agg ((zW ls.flatten).map bv).toArray)∧zb [] wr w'):=qI (by
    have h1:=sum_any wr q _ v _ ls.flatten.length HH.o HB.o (ZG _ _) (by have:=Gg.o;omega) Gs.o
    rw [← bp _ zr _ _ (Nat.le_refl _),QY _ _ _ (Nat.le_refl _)] at h1
    exact h1)
   have hsz:((zW ls.flatten).map bv).toArray.size=32:=by simp [yh]
   go_wp2_with first
    | (go_at_call 118;refine CS.o.mono ?_;rintro e w4 ⟨rfl,hk4⟩;have Gd:=qI hk4;clear hk4)
    | (refine zt (by rfl) (.tmp 2) (.tmp 18) (by rfl) (Gr.o.kept0 Gd.o) (zX _ _) (yh _) (by rfl) (by rfl) ?_;intro w5 h5 hk5;have H5:=qI h5;have Gb:=qI hk5;clear h5 hk5)
   have hres:=H5.o.var (yh _)
   refine bodyPost_ret (v:=.agg ((zW ls.flatten).map bv).toArray) (by simp only [results,results82];simp [hres,Sem.run_bind,asAddr,Act.put]) rfl ⟨rfl,?_⟩
   exact (Gf.o.then Gd.o).trans Gb.o (by intro i hi;simp at hi;subst hi;exact .inr (Nat.le_refl _))
open Go.Lib (decodeL)
theorem xa (l:List UInt8):(yc l).size=l.length:=by simp [yc,ByteArray.size]
theorem zo.toStr {w:World}{v:Value}{l:List UInt8}(h:zo w v l):(convert 53 9 v).run Tryz.prog w = .ok (.string (yc l)) w:=by
 rcases h.2 with ⟨rfl,h0⟩ | ⟨h0,ad,cap,rfl,hm⟩ | ⟨g,o,cap,rfl,hc,hm,hr⟩
 ·have:l=[]:=List.eq_nil_of_length_eq_zero h0
  subst this
  have h1:=run_convert_bytes_nil (P:=Tryz.prog) w 53 5 underlying53 underlying5 0 0 9 underlying9
  have e1:yc []=ByteArray.empty:=by rfl
  rw [e1]
  exact h1
 ·have:l=[]:=List.eq_nil_of_length_eq_zero h0
  subst this
  have h1:=run_convert_bytes_string (P:=Tryz.prog) w 53 9 5 (some ad) 0 cap underlying53 underlying5 underlying9
  rw [h1]
  rfl
 ·have h1:=run_convert_bytes_arg (P:=Tryz.prog) w 53 5 underlying53 underlying5 g o l.length cap (l.map fun b=>(b.toNat:Int)) (by simp) (fun i hi=>by
   rw [hr.at (by simpa using hi)]
   simp [bv,List.getD_eq_getElem?_getD,hi]) 9 underlying9
  have e2:strOfNums (l.map fun b=>(b.toNat:Int))=yc l:=by
   unfold strOfNums yc
   rw [List.map_map]
   have e3:((fun n:Int=>UInt8.ofNat n.toNat) ∘ fun b:UInt8=>(b.toNat:Int))=id:=funext fun b=>by simp
   rw [e3,List.map_id]
  rw [← e2]
  exact h1
structure zT (b:Nat) (w w':World):Prop where
 os:w'.os=w.os
 tape:w'.tape=w.tape
 output:w'.output=w.output
 size:w.heap.size≤w'.heap.size
 block:∀ k,k < w.heap.size→k≠b→kind w k≠5 + 2→w'.heap[k]? = w.heap[k]?
theorem zT.refl (b:Nat) (w:World):zT b w w:=⟨rfl,rfl,rfl,Nat.le_refl _,fun _ _ _ _=>rfl⟩
theorem zT.trans {b:Nat}{x y z:World}(h:zT b x y) (k:zT b y z):zT b x z:=
 ⟨k.os.trans h.os,k.tape.trans h.tape,k.output.trans h.output,Nat.le_trans h.size k.size,fun i hi hb hk=>by
  have h1:=h.block i hi hb hk
  have h2:kind y i=kind x i:=by simp [kind,h1]
  exact (k.block i (Nat.lt_of_lt_of_le hi h.size) hb (by rw [h2];exact hk)).trans h1⟩
theorem zT.of {b:Nat}{X:List Nat}{w w':World}(h:zb X w w') (hX:∀ k,k ∈ X→k=b∨kind w k=5 + 2):zT b w w':=
 ⟨h.os,h.tape,h.output,h.size,fun k hk hb hn=>h.block k hk (fun e=>by rcases hX k e with g | g;exact hb g;exact hn g)⟩
theorem zT.of0 {b:Nat}{w w':World}(h:zb [] w w'):zT b w w':=.of h (by simp)
theorem zT.heap {b:Nat}{w w':World}(h:zT b w w') {k:Nat}{o:Obj}(ho:w.heap[k]? = some o) (hb:k≠b) (hk:kind w k≠5 + 2):w'.heap[k]? = some o:=
 (h.block k (lt_of_block ho) hb hk).trans ho
structure BW (T:Nat) (W:World) (b:Nat) (w:World) (l:List UInt8):Prop where
 blk:∃ p v,(p = .pointer none∨p = .pointer (some ⟨b,0,none⟩))∧w.heap[b]? = some (.cells #[p,v] T (0,0))∧w.ownsRow W.heap.size 5 1 v l.length (l.map bv)
 kept:zb [b] W w
 lt:b < W.heap.size
theorem BW.stay {T:Nat}{W:World}{b:Nat}{w w':World}{l:List UInt8}(h:BW T W b w l) (k:zb [] w w'):BW T W b w' l:=by
 obtain⟨p,v,hp,hb,hr⟩:=h.blk
 exact⟨⟨p,v,hp,k.heap hb (by simp),zk hr k (by simp)⟩,h.kept.then k,h.lt⟩
theorem BW.new {T:Nat}{W:World}{b:Nat}(h:W.heap[b]? = some (.cells #[.pointer none,.slice none 0 0] T (0,0))):BW T W b W []:=
 ⟨⟨_,_,.inl rfl,h,World.ownsRow_nil _ _ _ _⟩,zb.refl _ _,lt_of_block h⟩
def YX (T:Nat):Prop:=liesAt Tryz.prog Tryz.prog.depth T (2 / Tryz.prog.cellsOf T) 0 125 1=true
theorem xx:YX 125:=by unfold YX;kernel_rfl
theorem yQ:YX 200:=by unfold YX;kernel_rfl
theorem shape_of {w:World}{b:Nat}{c:Array Value}{t:Nat}{f:Nat × Nat}(h:w.heap[b]? = some (.cells c t f)):w.shape? b=some (t,c.size):=by simp [World.shape?,h]
theorem ptr_same (w:World) (b:Nat):(binOp .neq 123 (.pointer (some ⟨b,0,none⟩)) (.pointer (some ⟨b,0,none⟩))).run Tryz.prog w = .ok (.bool false) w:=by
 have h1:(Tryz.prog.info? 125).map (·.size)=some 2:=by kernel_rfl
 obtain⟨j,hj,_⟩:=Option.map_eq_some_iff.1 h1
 exact Lib.run_neq_ptr_same w _ underlying123 hj
theorem to_unsafe {w:World}{b:Nat}{p v:Value}{T:Nat}(hb:w.heap[b]? = some (.cells #[p,v] T (0,0))):(convert 123 205 (.pointer (some ⟨b,0,none⟩))).run Tryz.prog w = .ok (.pointer (some ⟨b,0,none⟩)) w:=by
 have h1:(Tryz.prog.info? 125).map (·.size)=some 2:=by kernel_rfl
 obtain⟨j,hj,hs⟩:=Option.map_eq_some_iff.1 h1
 exact Lib.run_to_unsafe w ⟨b,0,none⟩ underlying123 underlying205 hj (by rw [hs];decide) (shape_of hb) (by simp)
theorem from_unsafe {w:World}{b:Nat}{p v:Value}{T:Nat}(hT:YX T) (hb:w.heap[b]? = some (.cells #[p,v] T (0,0))):(convert 205 123 (.pointer (some ⟨b,0,none⟩))).run Tryz.prog w = .ok (.pointer (some ⟨b,0,none⟩)) w:=by
 have h1:(Tryz.prog.info? 125).map (·.size)=some 2:=by kernel_rfl
 obtain⟨j,hj,_⟩:=Option.map_eq_some_iff.1 h1
 exact Lib.run_from_unsafe w ⟨b,0,none⟩ underlying205 underlying123 hj (shape_of hb) hT
theorem b6 {T:Nat}(hT:YX T) {w:World}{b:Nat}{p v:Value}(hp:p = .pointer none∨p = .pointer (some ⟨b,0,none⟩)) (hb:w.heap[b]? = some (.cells #[p,v] T (0,0))) :
  Calls Tryz.prog 119 #[.pointer (some ⟨b,0,none⟩)] w fun e w'=>e = .returned (.tuple #[])∧w'.heap[b]? = some (.cells #[.pointer (some ⟨b,0,none⟩),v] T (0,0))∧zb [b] w w':=by
 have HB:=qI hb
 have c0:=za (o:=0) (v:=p) hb rfl
 have f0:=zh (o:=0) hb
 have e1:=to_unsafe hb
 have e2:=from_unsafe hT hb
 clear hb
 rcases hp with rfl | rfl
 ·go_enter func119,ntmps119
  go_wp2_with fail
  rw [run_callFunc_extern func155 (by kernel_rfl) (by kernel_rfl) (by kernel_rfl) (e:=Extern.AbiNoEscape.same) (by kernel_rfl)]
  rw [Lib.run_noEscape]
  simp only [Result.andThen]
  rw [Oper.upon_value]
  go_wp2_with fail
  go_end0
  exact⟨rfl,ze HB.o rfl,(zb.refl _ _).setCell (.inl (by simp)) _⟩
 ·have e3:=ptr_same w b
  go_enter func119,ntmps119
  go_wp2_with fail
  go_end0
  exact⟨rfl,HB.o,zb.refl _ _⟩
theorem Zt:yM Tryz.prog 53 5 1 1 (.int .u8 0):=⟨underlying53,by kernel_rfl,rfl,by decide⟩
theorem BW.opened {T:Nat}{W:World}{b:Nat}{w:World}{l:List UInt8}(h:BW T W b w l):∃ p a c,(p = .pointer none∨p = .pointer (some ⟨b,0,none⟩))∧w.heap[b]? = some (.cells #[p,.slice a l.length c] T (0,0))∧w.ownsRow W.heap.size 5 1 (.slice a l.length c) l.length (l.map bv):=by
 obtain⟨p,v,hp,hb,hr⟩:=h.blk
 obtain⟨a,c,rfl,-,-⟩:=(Slc.of_row hr).form
 exact⟨p,a,c,hp,hb,hr⟩
theorem BW.wrote {T:Nat}{W:World}{b:Nat}{w w1 w2:World}{l l':List UInt8}{a a':Option Addr}{c n' c':Nat}(h:BW T W b w l) (hr:w.ownsRow W.heap.size 5 1 (.slice a l.length c) l.length (l.map bv))
  (hb1:w1.heap[b]? = some (.cells #[.pointer (some ⟨b,0,none⟩),.slice a l.length c] T (0,0))) (hk1:zb [b] w w1) (hr2:w2.ownsRow W.heap.size 5 1 (.slice a' n' c') n' (l'.map bv)) (hn:l'.length=n') (hk2:zb (Value.slice a l.length c).ownBlock.toList w1 w2) :
  w2.cell? ⟨b,1,none⟩=some (.slice a l.length c)∧w2.frozen? ⟨b,1,none⟩=false∧BW T W b (w2.setCell ⟨b,1,none⟩ (.slice a' n' c')) l'∧zT b w (w2.setCell ⟨b,1,none⟩ (.slice a' n' c')):=by
 subst hn
 have hlt:=h.lt
 have hnb:b ∉ (Value.slice a l.length c).ownBlock.toList:=fun hx=>by
  have:=(hr.lt _ (Option.mem_toList.1 hx)).1;omega
 have hb2:=hk2.heap hb1 hnb
 have kX:zb (b :: (Value.slice a l.length c).ownBlock.toList) w (w2.setCell ⟨b,1,none⟩ (.slice a' l'.length c')):=
  ((hk1.mono (Y:=b :: (Value.slice a l.length c).ownBlock.toList) (by simp)).trans' (hk2.mono (fun i hi=>List.mem_cons_of_mem _ hi))).setCell (p:=⟨b,1,none⟩) (.inl (List.mem_cons_self ..)) _
 refine⟨za hb2 rfl,zh hb2,⟨⟨_,_,.inr rfl,ze hb2 rfl,?_⟩,?_,hlt⟩,zT.of kX ?_⟩
 ·exact zk hr2 ((zb.refl [b] w2).setCell (p:=⟨b,1,none⟩) (.inl (by simp)) _) (fun g hg hx=>by
   simp at hx;have:=(hr2.lt g hg).1;omega)
 ·exact h.kept.trans kX (fun i hi=>by
   rcases List.mem_cons.1 hi with rfl | hi
   ·exact .inl (by simp)
   ·exact .inr (hr.lt i (Option.mem_toList.1 hi)).1)
 ·intro k hk
  rcases List.mem_cons.1 hk with rfl | hk
  ·exact .inl rfl
  ·exact .inr (z7 hr (Option.mem_toList.1 hk))
theorem xw {T:Nat}(hT:YX T) {W w:World}{b:Nat}{l:List UInt8}(h:BW T W b w l) (hl:l.length≤100000000) (x:UInt8) :
  Calls Tryz.prog 83 #[.pointer (some ⟨b,0,none⟩),.int .u8 x.toNat] w fun e w'=>e = .returned .nilIface∧BW T W b w' (l ++ [x])∧zT b w w':=by
 obtain⟨p,a,c,hp,hb,hr⟩:=h.opened
 have H:=qI h
 have HR:=qI hr
 have CC:=qI (b6 hT hp hb)
 have Gh:Hid (b < W.heap.size∧W.heap.size≤w.heap.size):=qI ⟨h.lt,h.kept.size⟩
 clear h hp hb hr
 go_enter func83,ntmps83
 go_wp2_with (first
  | (go_at_call 119;refine CC.o.mono ?_;rintro e w1 ⟨rfl,hb1,hk1⟩;have c1:=za (o:=1) (v:=.slice a l.length c) hb1 rfl;have Je:=qI hb1;have Ga:=qI hk1;clear hb1 hk1)
  | (at_builtin;refine zj Zt (zk HR.o (Ga.o.then ((zb.refl [] w1).alloc (.cells #[.int .u8 x.toNat] 5))) (by intro g hg hx;have h1:=(HR.o.lt g hg).1;have h2:=Gh.o;simp at hx;omega)) (jA w1 (bv x) 5 _ rfl) (by simp [bv,Value.oneCell']) (by simp only [maxLen];omega) (by omega) (by have h1:=Gh.o;have h2:=Ga.o.size;simp;omega) rfl _ _ rfl rfl rfl ?_;intro v2 w2 hown2 hk2 _ hb2;obtain⟨a2,c2,rfl,-,-⟩:=(Slc.of_row hown2).form;obtain⟨g1,g2,g3,g4⟩:=BW.wrote (l':=l ++ [x]) H.o HR.o (((zb.refl [] w1).alloc (.cells #[.int .u8 x.toNat] 5)).heap Je.o (by simp)) (Ga.o.then ((zb.refl [] w1).alloc (.cells #[.int .u8 x.toNat] 5))) (by rw [List.map_append];exact hown2) (by simp) hk2;have G3:=qI g3;have G4:=qI g4;clear hown2 hk2 hb2 g3 g4))
 go_ret
 exact⟨rfl,G3.o,G4.o⟩
theorem kJ {T:Nat}(hT:YX T) {W w:World}{b:Nat}{l:List UInt8}(h:BW T W b w l) (hl:l.length≤100000000) (s:ByteArray) (hs:s.size≤100000000) :
  Calls Tryz.prog 182 #[.pointer (some ⟨b,0,none⟩),.string s] w fun e w'=>e = .returned (.tuple #[.int .i64 s.size,.nilIface])∧BW T W b w' (l ++ s.data.toList)∧zT b w w':=by
 obtain⟨p,a,c,hp,hb,hr⟩:=h.opened
 obtain⟨i0,hi,hz0,hz1,hz2⟩:=info_parts Zt.info
 have H:=qI h
 have HR:=qI hr
 have HI:=qI hi
 have HZ:=qI (And.intro hz0 (And.intro hz1 hz2))
 have CC:=qI (b6 hT hp hb)
 have Gh:Hid (b < W.heap.size∧W.heap.size≤w.heap.size):=qI ⟨h.lt,h.kept.size⟩
 have HL:Hid (s.data.toList.length=s.size):=qI (by simp)
 clear h hp hb hr hi hz0 hz1 hz2
 go_enter func182,ntmps182
 go_wp2_with (first
  | (go_at_call 119;refine CC.o.mono ?_;rintro e w1 ⟨rfl,hb1,hk1⟩;have c1:=za (o:=1) (v:=.slice a l.length c) hb1 rfl;have Je:=qI hb1;have Ga:=qI hk1;clear hb1 hk1)
  | (at_builtin;refine Lib.wpList_append_own_string _ rfl _ _ 53 9 rfl W.heap.size 5 i0 underlying53 underlying9 HI.o HZ.o.1 HZ.o.2.1 HZ.o.2.2 (.slice a l.length c) l.length (l.map bv) rfl (zk HR.o Ga.o (by intro g hg hx;have h1:=(HR.o.lt g hg).1;have h2:=Gh.o;simp at hx;omega)) s rfl (by simp only [maxLen];omega) (by omega) (by have h1:=Gh.o;have h2:=Ga.o.size;omega) ?_;intro v2 w2 hown2 hg2 _;obtain⟨a2,c2,rfl,-,-⟩:=(Slc.of_row hown2).form;obtain⟨g1,g2,g3,g4⟩:=BW.wrote (l':=l ++ s.data.toList) H.o HR.o Je.o Ga.o (by rw [List.map_append];exact hown2) (by rw [List.length_append,HL.o]) ((zb.refl _ _).grown hg2 (fun k e=>.inl (by simp [e])));have G3:=qI g3;have G4:=qI g4;clear hown2 hg2 g3 g4))
 go_ret2
 exact⟨rfl,G3.o,G4.o⟩
theorem YF {w:World}{g:Nat}(n:Nat):zb [g] w (w.freeze ⟨g,0,none⟩ n):=by
 have h:=Lib.below_freeze (Below.refl 0 w) (p:=⟨g,0,none⟩) (Nat.zero_le _) n
 refine⟨h.os,h.tape,h.output,h.size,fun k hk hx=>?_⟩
 unfold World.freeze
 split
 ·rfl
 ·simp only [Array.getElem?_modify]
  rw [if_neg (by simp at hx;omega)]
theorem bf {T:Nat}{W w:World}{b:Nat}{l:List UInt8}(h:BW T W b w l) (hl:l.length≤100000000) (h0:l≠[]) :
  Calls Tryz.prog 84 #[.pointer (some ⟨b,0,none⟩)] w fun e w'=>e = .returned (.string (yc l))∧zb [b] W w'∧zT b w w':=by
 obtain⟨p,a,c,hp,hb,hr⟩:=h.opened
 have Gh:Hid (b < W.heap.size∧W.heap.size≤w.heap.size):=qI ⟨h.lt,h.kept.size⟩
 have Gv:=qI h.kept
 have c1:=za (o:=1) (v:=.slice a l.length c) hb rfl
 have hl0:l.length≠0:=by simpa using h0
 obtain⟨g,cap,cur,hv,hg,hbg,hnc,hcm,hcs,htake⟩:∃ g cap cur,(Value.slice a l.length c) = .slice (some ⟨g,0,none⟩) l.length cap∧W.heap.size≤g∧w.heap[g]? = some (.cells cur 5 (0,0))∧l.length≤cap∧cap≤maxLen∧cur.size=cap * 1∧cur.toList.take (l.length * 1)=l.map bv:=by
  rcases hr.2 with ⟨_,hz⟩ | ⟨g,cap,cur,hv,r1,r2,r3,r4,r5,r6⟩
  ·exact absurd hz hl0
  ·exact⟨g,cap,cur,hv,r1,r2,r3,r4,r5,r6⟩
 simp only [Value.slice.injEq] at hv
 obtain⟨rfl,-,rfl⟩:=hv
 have hrow:∀ j x,l[j]? = some x→w.drew.cell? ((⟨g,0,none⟩:Addr).add j)=some (.int .u8 x.toNat):=by
  intro j x hx
  have h2:=(Slc.of_row hr).2
  rcases h2 with ⟨h3,_⟩ | ⟨h3,_⟩ | ⟨g',o',cap',hv',_,_,hrow⟩
  ·cases h3
  ·exact absurd h3 hl0
  ·simp only [Value.slice.injEq,Option.some.injEq,Addr.mk.injEq] at hv'
   obtain⟨⟨rfl,rfl,-⟩,-,-⟩:=hv'
   exact hrow.adds j (bv x) (by simp [hx])
 have hSD:∀ W':World,(Builtin.unsafeSliceData_ #[53] 168 #[.slice (some ⟨g,0,none⟩) l.length c]).run Tryz.prog W' = .ok (.pointer (some ⟨g,0,none⟩)) W':=fun W'=>Lib.run_unsafeSliceData_row _ _ _ _ _ _ (by omega)
 have hUS:(Builtin.unsafeString_ #[168,3] 9 #[.pointer (some ⟨g,0,none⟩),.int .i64 l.length]).run Tryz.prog w.drew = .ok (.string (yc l)) (w.drew.freeze ⟨g,0,none⟩ l.length):=
  Lib.run_unsafeString_row w.drew 168 3 9 5 underlying168 (by kernel_rfl) g cur.size (by have hg':w.drew.heap[g]? = some (.cells cur 5 (0,0)):=hbg;simp [World.shape?,hg']) l h0 (by omega) (by omega) hrow
 have HK:Hid (zb [g] w (w.drew.freeze ⟨g,0,none⟩ l.length)):=qI ((zb.refl [g] w).drew.trans' (YF l.length))
 have HG:Hid (W.heap.size≤g∧kind w g=5 + 2):=qI ⟨hg,zy hbg⟩
 have Jy:=qI hSD
 have Jf:=qI hUS
 have hgb:b≠g:=by have:=Gh.o;omega
 clear h hp hb hr hbg hnc hcm hcs htake hrow hl0 hSD hUS hg h0
 go_enter func84,ntmps84
 go_wp2_with fail
 refine zq (n:=12) (fun w':World=>w'.cell? ⟨b,1,none⟩=some (.slice (some ⟨g,0,none⟩) l.length c)) 11 (by kernel_rfl) (by kernel_rfl) ?_
 change zM _ _ _ _ _ _ _ _ _ w.drew
 have hSS:(fun w':World=>w'.cell? ⟨b,1,none⟩=some (.slice (some ⟨g,0,none⟩) l.length c)) w.drew:=c1
 clear c1
 revert hSS Jf HK
 generalize w.drew=W2
 intro HK Jf hSS
 refine zz ?_
 intro O R hO hR
 have hQp:∀ c a (d:Nat) v w,R (.panic c) (a.put (some d) v) w→R (.panic c) a w:=by subst hR;exact fun _ _ _ _ _ h=>h
 refine qT 0 ?_ hO rfl rfl (by kernel_rfl) hQp (fun w hSw=>?_) hSS ?_
 rotate_left
 ·go_simp;try with_reducible rfl
 try simp only [zA,zN,zB,zC,zD]
 refine qT 1 ?_ hO rfl rfl (by kernel_rfl) hQp (fun w hSw=>?_) hSS ?_
 rotate_left
 ·go_simp;try with_reducible rfl
 try simp only [zA,zN,zB,zC,zD]
 refine qT 2 ?_ hO rfl rfl (by kernel_rfl) hQp (fun w hSw=>?_) hSS ?_
 rotate_left
 ·go_simp;try with_reducible rfl
 try simp only [zA,zN,zB,zC,zD]
 refine qT 3 ?_ hO rfl rfl (by kernel_rfl) hQp (fun w hSw=>?_) hSS ?_
 rotate_left
 ·go_simp;try with_reducible rfl
 try simp only [zA,zN,zB,zC,zD]
 refine qT 5 ?_ hO rfl rfl (by kernel_rfl) hQp (fun w hSw=>?_) hSS ?_
 rotate_left
 ·go_simp;try with_reducible rfl
 try simp only [zA,zN,zB,zC,zD]
 refine qT 6 ?_ hO rfl rfl (by kernel_rfl) hQp (fun w hSw=>?_) hSS ?_
 rotate_left
 ·go_simp;try with_reducible rfl
 try simp only [zA,zN,zB,zC,zD]
 refine qT 7 ?_ hO rfl rfl (by kernel_rfl) hQp (fun w hSw=>?_) hSS ?_
 rotate_left
 ·go_simp;try with_reducible rfl
 try simp only [zA,zN,zB,zC,zD]
 refine qT 8 ?_ hO rfl rfl (by kernel_rfl) hQp (fun w hSw=>?_) hSS ?_
 rotate_left
 ·go_simp;try with_reducible rfl
 try simp only [zA,zN,zB,zC,zD]
 refine qT 9 ?_ hO rfl rfl (by kernel_rfl) hQp (fun w hSw=>?_) hSS ?_
 rotate_left
 ·go_simp;try with_reducible rfl
 try simp only [zA,zN,zB,zC,zD]
 have hSD:=Jy.o
 refine qT 4 ?_ hO rfl rfl (by kernel_rfl) hQp (fun w hSw=>?_) hSS ?_
 rotate_left
 ·go_simp;try with_reducible rfl
 try simp only [zA,zN,zB,zC,zD]
 have hUS:=Jf.o
 refine qO 10 hO rfl (by kernel_rfl) (fun K hK=>?_)
 go_simp
 have hS2:(fun w':World=>w'.cell? ⟨b,1,none⟩=some (.slice (some ⟨g,0,none⟩) l.length c)) (W2.freeze ⟨g,0,none⟩ l.length):=(YF l.length).cell hSS (by simpa using hgb)
 refine hK _ _ (.inr hS2) ?_
 clear hK K
 try simp only [zA,zN,zB,zC,zD]
 clear hSS
 have hSS:=hS2
 clear hS2 hSD hUS
 refine qO 11 hO rfl (by kernel_rfl) (fun K hK=>?_)
 go_simp
 refine hK _ _ (.inl rfl) ?_
 clear hK K
 try simp only [zA,zN,zB,zC,zD]
 refine zE hO (by kernel_rfl) ?_ _
 subst hR
 try clear hQp hO O
 go_wp2_with fail
 go_ret
 refine⟨rfl,Gv.o.trans HK.o (fun i hi=>by simp at hi;subst hi;exact .inr HG.o.1),zT.of HK.o (fun i hi=>by simp at hi;subst hi;exact .inr HG.o.2)⟩
end Go.Proofs.YtibnfbglanpoiaaGreatDoor

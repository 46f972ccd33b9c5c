/- Parts of one proof, merged: XFJ. -/
import Derived.Test.YtibnfbglanpoiaaGreatDoorQeAU
import Derived.Test.YtibnfbglanpoiaaGreatDoorQeAD
import Derived.ChangeKeysEq
set_option linter.all false
set_option maxHeartbeats 12800000
set_option maxRecDepth 100000
namespace Go.Proofs.YtibnfbglanpoiaaGreatDoor
open Go.Proofs.Tryz
open Go.RowKit
theorem Zc {ops:Array Oper}{rest:List Oper}{op:Oper}{a:Act}{w:World}{Q:Exit→Act→World→Prop}(hw:Region.wanted op (yielded ops a.tmps)=true) (x:Operand) (ho:op.op = .load 45 x) {g of:Nat}{l:List UInt8}(h0:w.rangeAt g of (l.map bv)) (hl:l.length=32)
  (hx:a.eval x = .pointer (some ⟨g,of,none⟩)) (h:wpList Tryz.prog ops Q rest (a.put op.dst (.agg (l.map bv).toArray)) w):wpList Tryz.prog ops Q (op::rest) a w:=
 BigFrame.wpList_want hw fun _ hK=>wp_load_mid 45 x ho g of hx (l.map bv) _ h0 underlying45 rfl (by rw [List.length_map,hl];exact xU) (hK _ _ h)
theorem info8D:∃ i,Tryz.prog.info? 5=some i:=by
 cases h:Tryz.prog.info? 5 with
 | some i=>exact⟨i,rfl⟩
 | none=>
  have h2:(Tryz.prog.info? 5).isSome=true:=Wr
  rw [h] at h2
  cases h2
theorem items32 (d:Nat) {l r:List UInt8}(hl:l.length=32) (hr:r.length=32) (w:World):∀ is:List Nat,(∀ i,i∈is→i<32)→(Op.eqItems (d+1) 5 1 (l.map bv).toArray (r.map bv).toArray is).run Tryz.prog w = .ok (is.all fun i=>decide (l.getD i 0=r.getD i 0)) w
 | [],_=>by simp [Op.eqItems]
 | i::is,h=>by
  have hi:=h i Wz
  have hc:∀ {x:List UInt8},x.length=32→(x.map bv).toArray[i*1]? = some (bv (x.getD i 0)):=fun {x} hx=>by
   rw [Nat.mul_one,List.getElem?_toArray,List.getElem?_map,List.getD,List.getElem?_eq_getElem Ws];rfl
  have h1:=run_part_plain (P:=Tryz.prog) w (e:=5) Wr (hc hl)
  have h2:=run_part_plain (P:=Tryz.prog) w (e:=5) Wr (hc hr)
  have h3:(Op.equalIn (d+1) 5 (bv (l.getD i 0)) (bv (r.getD i 0))).run Tryz.prog w = .ok (decide (l.getD i 0=r.getD i 0)) w:=by
   have h9:(((l.getD i 0).toNat:Int) == ((r.getD i 0).toNat:Int))=decide (l.getD i 0=r.getD i 0):=by
    rw [Bool.eq_iff_iff]
    simp only [beq_iff_eq,decide_eq_true_eq]
    constructor
    ·intro e;exact UInt8.toNat_inj.1 Ws
    ·intro e;rw [e]
   rw [← h9]
   exact run_equalIn_int w d _ _ .u8 _ _ underlying5
  have h4:=items32 d hl hr w is (fun j hj=>h j (List.mem_cons_of_mem _ hj))
  simp only [Op.eqItems,Sem.run_bind,h1,h2,h3,Result.andThen_ok,List.all_cons]
  cases decide (l.getD i 0=r.getD i 0) with
  | true=>simp only [Bool.not_true,Bool.false_eq_true,if_false,h4,Bool.true_and]
  | false=>simp only [Bool.not_false,if_true,Sem.run_pure,Bool.false_and]
theorem all32 {l r:List UInt8}(hl:l.length=32) (hr:r.length=32):((List.range 32).all fun i=>decide (l.getD i 0=r.getD i 0))=decide (l=r):=by
 rw [Bool.eq_iff_iff]
 simp only [List.all_eq_true,List.mem_range,decide_eq_true_eq]
 constructor
 ·intro h
  apply List.ext_getElem
  ·rw [hl,hr]
  ·intro i h1 h2
   have h3:=h i Ws
   simpa [List.getD,h1,h2] using h3
 ·rintro rfl i _;rfl
theorem equal32 {l r:List UInt8}(hl:l.length=32) (hr:r.length=32) (d:Nat) (w:World):(Op.equalIn (d+2) 45 (.agg (l.map bv).toArray) (.agg (r.map bv).toArray)).run Tryz.prog w = .ok (decide (l=r)) w:=by
 obtain⟨i,hi⟩:=info8D
 have hc:Tryz.prog.cellsOf 5=1:=Wr
 rw [run_equalIn_array w (d+1) _ _ underlying45 hi,hc,items32 d hl hr w _ (fun i hi=>List.mem_range.1 hi),all32 hl hr]
theorem eql32 {l r:List UInt8}(hl:l.length=32) (hr:r.length=32) (w:World):(binOp .eql 45 (.agg (l.map bv).toArray) (.agg (r.map bv).toArray)).run Tryz.prog w = .ok (.bool (decide (l=r))) w:=by
 rw [run_eql_struct,equal32 hl hr 9998];rfl
theorem wpList_eql32 {ops:Array Oper}{rest:List Oper}{op:Oper}{a:Act}{w:World}{Q:Exit→Act→World→Prop}{l r:List UInt8}(hl:l.length=32) (hr:r.length=32) (hw:Region.wanted op (yielded ops a.tmps)=true) (i j:Nat) (ho:op.op = .binOp .eql 45 (.tmp i) (.tmp j) 45) (hx:a.eval (.tmp i) = .agg (l.map bv).toArray) (hy:a.eval (.tmp j) = .agg (r.map bv).toArray) (h:wpList Tryz.prog ops Q rest (a.put op.dst (.bool (decide (l=r)))) w):wpList Tryz.prog ops Q (op::rest) a w:=
 BigFrame.wpList_want hw fun K hK=>by
  have hg:(eqGuard .eql 45 (.tmp i) (.tmp j) (.agg (l.map bv).toArray) (.agg (r.map bv).toArray)).run Tryz.prog w = .ok () w:=run_eqGuard_agg w .eql _ _ _ _ _ Wr
  have hr:(execOp a.eval op).run Tryz.prog w = .ok (.value (.bool (decide (l=r)))) w:=by
   unfold execOp
   simp only [ho,hx,hy,Sem.run_bind,hg,eql32 hl hr,Result.andThen_ok,Sem.run_pure]
  unfold Oper.wp
  rw [hr]
  exact hK _ _ h
theorem refVerify_any {w:World}(k:zY) (hbk:qX k.bits) (hr:k.root.length=32) (hmk:zI k=true) {am:Option Addr}{cm:Nat}{m:List UInt8}(hbm:zp w (.slice am m.length cm) m) (hm:m.length≤1048576)
  (s:SigS) (hlf:s.leaf≤1073741824) {nb nh:Nat}(hnb:k.bits=nb) (hnh:k.height=nh) (hn1:s.one.rev.length=nb) (hn2:s.one.oth.length=nb) (hn3:s.way.length=nh) (h31:yC s.one.rev) (h32:yC s.one.oth) (h33:yC s.way)
  {a1 a2 a3:Option Addr}{c1 c2 c3:Nat}(hs1:Slc w 32 (.slice a1 nb c1) nb (s.one.rev.flatten.map bv)) (hs2:Slc w 32 (.slice a2 nb c2) nb (s.one.oth.flatten.map bv)) (hs3:Slc w 32 (.slice a3 nh c3) nh (s.way.flatten.map bv)) :
  CL w 125 #[.agg (ye k),.slice am m.length cm,.agg #[.int .i64 s.leaf,.slice a1 nb c1,.slice a2 nb c2,.slice a3 nh c3]] (.bool (Z3 k.root m s)):=by
 obtain⟨W1,Ge⟩:∃ W1,Hid (W1=(w.alloc (.cells (ye k) 47)).alloc (.cells #[.int .i64 s.leaf,.slice a1 nb c1,.slice a2 nb c2,.slice a3 nh c3] 82)):=⟨_,qI rfl⟩
 have Gd:Hid (zb [] w W1):=qI (kA2 Ge.o)
 have HA:Hid (yw W1 w.heap.size k):=qI (by rw [Ge.o];exact ((zb.refl [] _).alloc _).heap (zd rfl) Wz)
 have Gc:Hid (vu W1 (w.heap.size+1) s.leaf (.slice a1 nb c1) (.slice a2 nb c2) (.slice a3 nh c3)):=qI (by rw [Ge.o];exact zd Wz)
 have hmb:yv nb=true∧nh≤6:=by
  unfold zI at hmk
  rw [hnb,hnh] at hmk
  simp only [Bool.and_eq_true,decide_eq_true_eq] at hmk
  exact⟨hmk.1,Ws⟩
 have CM:=qI (jk k hbk W1)
 rw [hmk] at CM
 have CI:Hid (Cq W1 159 #[.slice am m.length cm,.agg #[.slice a1 nb c1,.slice a2 nb c2]] (.tuple #[.agg ((xG m s.one).map bv).toArray,.int .i64 0])):=
  qI (fun w2 hk=>KU ((hbm.kept0 Gd.o).kept0 hk) hm hn1 hn2 h31 h32 ((hs1.kept0 Gd.o).kept0 hk) ((hs2.kept0 Gd.o).kept0 hk) hmb.1)
 have CC:Hid (∀ w2,zb [] W1 w2→Calls Tryz.prog 160 #[.agg ((xG m s.one).map bv).toArray,.int .i64 s.leaf,.slice a3 nh c3] w2 fun e w'=>((s.leaf<2 ^ nh∧e = .returned (.tuple #[.agg ((xQ (xG m s.one) s.leaf s.way).map bv).toArray,.int .i64 0]))∨(¬ s.leaf<2 ^ nh∧e = .returned (.tuple #[.agg z32,.int .i64 1])))∧zb [] w2 w'):=
  qI (fun w2 hk=>refClimb_any (kK _ _) s.leaf hlf h33 hn3 hmb.2 ((hs3.kept0 Gd.o).kept0 hk))
 have Gf:Hid ((xG m s.one).length=32):=qI (kK _ _)
 have Gg:Hid ((xQ (xG m s.one) s.leaf s.way).length=32):=qI (YN _ _ _ (kK _ _))
 have HV:Hid (Z3 k.root m s=(decide (s.leaf<2 ^ nh)&&decide (xQ (xG m s.one) s.leaf s.way=k.root))):=qI (by unfold Z3;rw [hn3])
 have Gh:=qI hr
 have Gl:=qI (And.intro hnb hnh)
 have hmI:(m.length:Int)≤1048576:=Ws
 clear hbk hr hmk hbm hm hlf hn1 hn2 hn3 h31 h32 h33 hs1 hs2 hs3 hmb hnb hnh
 generalize xQ (xG m s.one) s.leaf s.way=cl at CC Gg HV
 generalize xG m s.one=il at CI CC Gf
 generalize m.length=mn at CI hmI
 generalize hsl:s.leaf=lf at Ge Gc CC HV ⊢
 clear hsl
 have kc0:=HA.o.c0
 have kc1:=HA.o.c1
 rw [Gl.o.1] at kc0
 rw [Gl.o.2] at kc1
 have s0:=za (o:=0) Gc.o rfl
 have s1:=za (o:=1) Gc.o rfl
 have s2:=za (o:=2) Gc.o rfl
 have s3:=za (o:=3) Gc.o rfl
 go_enter func125,ntmps125
 go_upto_region 1 with fail
 refine yq Ge.o ?_
 go_upto_region 3 with first
  | (refine zO Wk (.tmp 3) Wk HA.o Gh.o Wk ?_)
  | (go_at_call 46;refine CM.o.mono ?_;rintro e w2 ⟨rfl,hk2⟩;have y0:=hk2.cell kc0 Wz;have y1:=hk2.cell kc1 Wz;have z0:=hk2.cell s0 Wz;have z1:=hk2.cell s1 Wz;have z2:=hk2.cell s2 Wz;have z3:=hk2.cell s3 Wz;have Gm:=qI hk2;clear hk2 kc0 kc1 s0 s1 s2 s3)
 go_upto_region 6 with first
  | (refine zq Wk (.tmp 7) (.tmp 40) Wk (g:=w3.heap.size) (l0:=xe zu 0) (zd rfl) (zJ _ _) Gf.o Wk Wk ?_;intro w4 h4 hk4;have Gn:=qI h4;have Gp:Hid (zb [] w3 w4):=qI (((zb.refl [] w3).alloc _).trans hk4 (by intro i hi;simp at hi;subst hi;exact .inr (Nat.le_refl _)));clear h4 hk4;simp only [Act.put])
  | (go_at_call 159;refine (CI.o _ Gm.o).mono ?_;rintro e w3 ⟨rfl,hk3⟩;have Gq:=qI (Gm.o.then hk3);clear hk3)
 have Ga:Hid (zb [] W1 w4):=qI (Gq.o.then Gp.o)
 have CD:=CC.o _ Ga.o
 have e0:=Ga.o.cell (za (o:=0) Gc.o rfl) Wz
 have e3:=Ga.o.cell (za (o:=3) Gc.o rfl) Wz
 clear y0 y1 z0 z1 z2 z3
 clear CM CI
 by_cases hlt:lf<2 ^ nh
 ·have Gi:Hid (decide (lf<2 ^ nh)=true):=qI (decide_eq_true hlt)
  have CG:Hid (Cz w4 160 #[.agg (il.map bv).toArray,.int .i64 lf,.slice a3 nh c3] (.tuple #[.agg (cl.map bv).toArray,.int .i64 0])):=qI (CD.mono (fun e w' h=>⟨h.1.elim (fun h=>h.2) (fun h=>absurd hlt h.1),h.2⟩))
  clear CD hlt CC
  go_upto_region 7 with first
   | (refine zP Wk (.tmp 7) Wk Gn.o Gf.o Wk ?_)
   | (refine zq Wk (.tmp 9) (.tmp 51) Wk (g:=w5.heap.size) (l0:=xe zu 0) (zd rfl) (zJ _ _) Gg.o Wk Wk ?_;intro w6 h6 hk6;have Gr:=qI h6;have Gj:Hid (zb [] w5 w6):=qI (((zb.refl [] w5).alloc _).trans hk6 (by intro i hi;simp at hi;subst hi;exact .inr (Nat.le_refl _)));clear h6 hk6;simp only [Act.put])
   | (go_at_call 160;refine CG.o.mono ?_;rintro e w5 ⟨rfl,hk5⟩;have Gk:=qI (Ga.o.then hk5);clear hk5)
  have Gb:Hid (zb [] W1 w6):=qI (Gk.o.then Gj.o)
  have Gs:=qI (key_root (HA.o.kept0 Gb.o))
  have Gt:=qI Gr.o.ofs
  clear e0 e3
  go_wp2_with first
   | (refine Zc Wk (.tmp 9) Wk Gt.o Gg.o Wk ?_)
   | (refine Zc Wk (.tmp 57) Wk Gs.o Gh.o Wk ?_)
   | (refine wpList_eql32 Gg.o Gh.o Wk 56 58 Wk Wk Wk ?_)
  go_ret
  exact⟨by rw [HV.o,Gi.o];rfl,Gd.o.then Gb.o⟩
 ·have Gi:Hid (decide (lf<2 ^ nh)=false):=qI (decide_eq_false hlt)
  have CG:Hid (Cz w4 160 #[.agg (il.map bv).toArray,.int .i64 lf,.slice a3 nh c3] (.tuple #[.agg z32,.int .i64 1])):=qI (CD.mono (fun e w' h=>⟨h.1.elim (fun h=>absurd h.1 hlt) (fun h=>h.2),h.2⟩))
  clear CD hlt CC
  go_upto_region 7 with first
   | (refine zP Wk (.tmp 7) Wk Gn.o Gf.o Wk ?_)
   | (refine zq Wk (.tmp 9) (.tmp 51) Wk (g:=w5.heap.size) (l:=List.replicate 32 0) (l0:=xe zu 0) (zd rfl) (zJ _ _) Wk Wk Wk ?_;intro w6 h6 hk6;have Gj:Hid (zb [] w5 w6):=qI (((zb.refl [] w5).alloc _).trans hk6 (by intro i hi;simp at hi;subst hi;exact .inr (Nat.le_refl _)));clear h6 hk6;simp only [Act.put])
   | (go_at_call 160;refine CG.o.mono ?_;rintro e w5 ⟨rfl,hk5⟩;have Gk:=qI (Ga.o.then hk5);clear hk5)
  have Gb:Hid (zb [] W1 w6):=qI (Gk.o.then Gj.o)
  clear e0 e3
  go_wp2_with fail
  go_ret
  exact⟨by rw [HV.o,Gi.o];rfl,Gd.o.then Gb.o⟩
end Go.Proofs.YtibnfbglanpoiaaGreatDoor

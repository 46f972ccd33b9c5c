/- Parts of one proof, merged: XFI. -/
import Derived.Test.YtibnfbglanpoiaaGreatDoorQeAS
import Derived.Test.YtibnfbglanpoiaaGreatDoorQeAK
set_option linter.all false
set_option maxHeartbeats 12800000
set_option maxRecDepth 100000
namespace Go.Proofs.YtibnfbglanpoiaaGreatDoor
open Go.Proofs.Tryz
open Go.RowKit
theorem way_push {w w':World}{B g:Nat}{lf:Int}{a:Option Addr}{c:Nat}{ps:List (List UInt8)}(hb:vu w g lf (.slice none 0 0) (.slice none 0 0) (.slice a ps.length c)) (hr:w.ownsRow B 45 32 (.slice a ps.length c) ps.length (ps.flatten.map bv)) {x:List UInt8}{a5:Option Addr}{c5:Nat}
  (hown:w'.ownsRow B 45 32 (.slice a5 (ps.length+1) c5) (ps.length+1) (ps.flatten.map bv++x.map bv)) (hk:zb (Value.slice a ps.length c).ownBlock.toList w w') :
  w'.cell? ⟨g,3,none⟩=some (.slice a ps.length c)∧w'.frozen? ⟨g,3,none⟩=false∧vu (w'.setCell ⟨g,3,none⟩ (.slice a5 (ps.length+1) c5)) g lf (.slice none 0 0) (.slice none 0 0) (.slice a5 (ps.length+1) c5)∧(w'.setCell ⟨g,3,none⟩ (.slice a5 (ps.length+1) c5)).ownsRow B 45 32 (.slice a5 (ps.length+1) c5) (ps.length+1) ((ps++[x]).flatten.map bv):=by
 have hng:g ∉ (Value.slice a ps.length c).ownBlock.toList:=fun hx=>xt (yp hr (Option.mem_toList.1 hx)) (zM hb) Wo rfl
 have hb8:=hk.heap hb hng
 have hst:zb [g] w' (w'.setCell ⟨g,3,none⟩ (.slice a5 (ps.length+1) c5)):=Wd.setCell (.inl Wz) _
 have hef:((ps++[x]).flatten).map bv=ps.flatten.map bv++x.map bv:=Wz
 refine⟨za hb8 rfl,zh hb8,zg hb8 rfl,?_⟩
 rw [hef]
 exact zo hown hst (fun b e hx=>by
  simp at hx;subst hx
  exact xt (yp hown e) (zM hb8) Wo rfl)
theorem cutL_snoc (n k:Nat) (l:List UInt8):vy n (k+1) l=vy n k l++[(l.drop (n*k)).take n]:=KH _ _
theorem rdB_bad (n:Nat) (l:List UInt8) (bad:Bool) (h:(rdB n l bad).2.2=true):(rdB n l bad).2.1=[]:=by
 unfold rdB at h ⊢
 split at h
 ·cases h
 ·rename_i h9;rw [if_neg h9]
theorem rdN_bad (l:List UInt8) (h:(rdN l).2.2=true):(rdN l).2.1=[]:=by
 unfold rdN at h ⊢
 split at h
 ·cases h
 ·rename_i h9;rw [if_neg h9]
theorem rdB_len (n:Nat) (l:List UInt8) (bad:Bool):(rdB n l bad).1.length=n∧(rdB n l bad).2.2=false∨(rdB n l bad).1=[]∧(rdB n l bad).2.2=true:=by
 unfold rdB
 split
 ·rename_i h;exact .inl ⟨by rw [List.length_take];omega,rfl⟩
 ·exact .inr ⟨rfl,rfl⟩
def WayD (L:List UInt8) (bad0:Bool) (k:Nat) (l:List UInt8) (bad:Bool) (ps:List (List UInt8)):Prop:=
 (bad=true→l=[])∧(bad=false↔(bad0=false∧32*k≤L.length))∧(bad=false→l=L.drop (32*k)∧ps=vy 32 k L)
theorem WayD.next {L:List UInt8}{bad0:Bool}{k:Nat}{l:List UInt8}{bad:Bool}{ps:List (List UInt8)}(h:WayD L bad0 k l bad ps) {y:List UInt8}(hy:(rdB 32 l bad).2.2=false→y=(rdB 32 l bad).1):WayD L bad0 (k+1) (rdB 32 l bad).2.1 (rdB 32 l bad).2.2 (ps++[y]):=by
 obtain⟨h1,h2,h3⟩:=h
 refine⟨rdB_bad _ _ _,?_,fun hb=>?_⟩
 ·unfold rdB
  by_cases hc:32≤l.length∧bad=false
  ·rw [if_pos hc]
   obtain⟨e1,-⟩:=h3 hc.2
   have:=(h2.1 hc.2)
   have h4:=hc.1
   rw [e1,List.length_drop] at h4
   simp only [true_iff]
   exact⟨this.1,Ws⟩
  ·rw [if_neg hc]
   simp only [Bool.true_eq_false,false_iff,not_and]
   intro hb0 hk
   have hb:=h2.2 ⟨hb0,Ws⟩
   obtain⟨e1,-⟩:=h3 hb
   exact hc ⟨by rw [e1,List.length_drop];omega,hb⟩
 ·have hy:=hy hb
  unfold rdB at hb hy ⊢
  by_cases hc:32≤l.length∧bad=false
  ·rw [if_pos hc] at hy ⊢
   obtain⟨e1,e2⟩:=h3 hc.2
   refine⟨?_,?_⟩
   ·show l.drop 32=_
    rw [e1,List.drop_drop];rfl
   ·rw [hy,cutL_snoc,e2]
    show _++[l.take 32]=_
    rw [e1]
  ·rw [if_neg hc] at hb;cases hb
theorem way_end {L:List UInt8}{bad0:Bool}{k:Nat}{l:List UInt8}{bad:Bool}{ps:List (List UInt8)}(h:WayD L bad0 k l bad ps):(bad=false∧l=[])↔((rdB (32*k) L bad0).2.2=false∧(rdB (32*k) L bad0).2.1=[]):=by
 obtain⟨h1,h2,h3⟩:=h
 unfold rdB
 by_cases hc:32*k≤L.length∧bad0=false
 ·rw [if_pos hc]
  have hb:=h2.2 ⟨hc.2,hc.1⟩
  rw [hb,(h3 hb).1]
 ·rw [if_neg hc]
  constructor
  ·intro hb;exact absurd ⟨(h2.1 hb.1).2,(h2.1 hb.1).1⟩ hc
  ·intro hb;cases hb.1
theorem refSigDec_any {w:World}(k:zY) (hbk:qX k.bits) (hr:k.root.length=32) {a:Option Addr}{c:Nat}{l:List UInt8}(hb:zp w (.slice a l.length c) l) (hll:l.length≤1000000) :
  Calls Tryz.prog 124 #[.agg (ye k),.slice a l.length c] w fun e w'=>ju w w' e k l∧zb [] w w':=by
 obtain⟨W1,Gj⟩:∃ W1,Hid (W1=(w.alloc (.cells (ye k) 47)).alloc (.cells #[.int .i64 0,.slice none 0 0,.slice none 0 0,.slice none 0 0] 82)):=⟨_,qI rfl⟩
 have Jm:Hid (zb [] w W1):=qI (kA2 Gj.o)
 have HA:Hid (yw W1 w.heap.size k):=qI (by rw [Gj.o];exact ((zb.refl [] _).alloc _).heap (zd rfl) Wz)
 have Mm:Hid (vu W1 (w.heap.size+1) 0 (.slice none 0 0) (.slice none 0 0) (.slice none 0 0)):=qI (by rw [Gj.o];exact zd Wz)
 have hS1:Hid (W1.heap.size=w.heap.size+2):=qI (by rw [Gj.o];simp)
 have CM:=qI (jk k hbk W1)
 have Mn:=qI hr
 have Gr:Hid (∀ (w':World) (e:Ending) (z:Int),z≠0→-1000≤z→z≤1000→¬ (zI k=true∧qZ k.bits.toNat k.height.toNat l=true)→e = .returned (.tuple #[.agg #[.int .i64 0,.slice none 0 0,.slice none 0 0,.slice none 0 0],.int .i64 z])→ju w w' e k l):=qI (fun w' e z h1 h2 h3 h4 h5=>by unfold ju;rw [if_neg h4];exact⟨z,h1,h2,h3,h5⟩)
 by_cases hm:zI k=true
 rotate_left
 ·have Jn:Hid (¬ (zI k=true∧qZ k.bits.toNat k.height.toNat l=true)):=qI (fun h=>hm h.1)
  have hmf:zI k=false:=by cases h:zI k <;> simp_all
  rw [hmf] at CM
  clear hbk hr hb hll hm hmf
  generalize l.length=ln
  go_enter func124,ntmps124
  go_upto_region 1 with fail
  refine yq Gj.o ?_
  go_wp2_with first
   | (refine zO Wk (.tmp 2) Wk HA.o Mn.o Wk ?_)
   | (go_at_call 46;refine CM.o.mono ?_;rintro e w2 ⟨rfl,hk2⟩;have hb2:=hk2.heap Mm.o Wz;have Ye:=qI hb2;have r0:=za (o:=0) hb2 rfl;have r1:=za (o:=1) hb2 rfl;have r2:=za (o:=2) hb2 rfl;have r3:=za (o:=3) hb2 rfl;have z:∀ j,w2.frozen? ⟨w.heap.size+1,j,none⟩=false:=fun j=>zh hb2;have Gs:=qI hk2;clear hk2 hb2)
  change bodyPost _ _ _ _ _ (vE w2 (w.heap.size+1) 0 (.slice none 0 0) (.slice none 0 0) (.slice none 0 0))
  have Gd:=qS w2 (w.heap.size+1) 0 (.slice none 0 0) (.slice none 0 0) (.slice none 0 0)
  have Ga:=jE Ye.o 0 (.slice none 0 0) (.slice none 0 0) (.slice none 0 0)
  generalize vE w2 (w.heap.size+1) 0 (.slice none 0 0) (.slice none 0 0) (.slice none 0 0)=WF at Gd Ga
  have y0:=za (o:=0) Ga rfl
  have y1:=za (o:=1) Ga rfl
  have y2:=za (o:=2) Ga rfl
  have y3:=za (o:=3) Ga rfl
  refine bodyPost_ret (v:=.tuple #[.agg #[.int .i64 0,.slice none 0 0,.slice none 0 0,.slice none 0 0],.int .i64 1]) (by simp [results,results124,go_sem,y0,y1,y2,y3]) rfl ⟨Gr.o _ _ 1 Wo Wo Wo Jn.o rfl,?_⟩
  exact (Jm.o.then Gs.o).trans Gd (by intro i hi;simp at hi;subst hi;exact .inr Ws)
 rw [hm] at CM
 have hm2:=hm
 unfold zI yv at hm2
 simp only [Bool.and_eq_true,decide_eq_true_eq] at hm2
 obtain⟨nb,hnb⟩:∃ nb:Nat,k.bits=(nb:Int):=⟨k.bits.toNat,Ws⟩
 obtain⟨nh,hnh⟩:∃ nh:Nat,k.height=(nh:Int):=⟨k.height.toNat,Ws⟩
 have Yf:Hid (yv nb=true):=qI (by
  unfold zI at hm
  rw [hnb] at hm
  simp only [Bool.and_eq_true] at hm
  exact hm.1)
 have hnbI:(nb:Int)≤256:=Ws
 have hnhI:(nh:Int)≤6:=Ws
 have hnb0:0<nb:=Ws
 have Mo:=qI (And.intro hnb hnh)
 have Jo:=qI hm
 obtain⟨R1,Gb⟩:∃ R1,Hid (R1=rdN l):=⟨_,qI rfl⟩
 obtain⟨R2,Gc⟩:∃ R2,Hid (R2=rdB (64*nb) R1.2.1 R1.2.2):=⟨_,qI rfl⟩
 obtain⟨n2,Gt⟩:∃ n2,Hid (R2.1.length=n2):=⟨_,qI rfl⟩
 have Gu:Hid (R1.2.1.length≤1000000):=qI (by rw [Gb.o];unfold rdN;split <;> simp <;> omega)
 have Gv:Hid (R2.2.1.length≤1000000):=qI (by have h9:=Gu.o;rw [Gc.o];unfold rdB;split <;> simp <;> omega)
 have CI:Hid (∀ (w2:World) (p:Nat),RdD w.heap.size w2 p l false→Calls Tryz.prog 156 #[.pointer (some ⟨p,0,none⟩),.int .i64 4] w2 fun e w'=>e = .returned (.int .i64 R1.1)∧RdD w.heap.size w' p R1.2.1 R1.2.2∧zb [p] w2 w'):=qI (fun w2 p h=>by rw [Gb.o];exact refRdInt_any h hll)
 have CB1:Hid (∀ (w2:World) (p:Nat),RdD w.heap.size w2 p R1.2.1 R1.2.2→Calls Tryz.prog 157 #[.pointer (some ⟨p,0,none⟩),.int .i64 (64*(nb:Int))] w2 fun e w'=>(∃ a c,e = .returned (.slice a n2 c)∧zp w' (.slice a n2 c) R2.1∧(∀ g,zW (.slice a n2 c)=some g→w2.heap.size≤g))∧RdD w.heap.size w' p R2.2.1 R2.2.2∧zb [p] w2 w'):=qI (fun w2 p h=>by
  have h1:=Zf h (fun hb=>by rw [Gb.o] at hb ⊢;exact rdN_bad l hb) (64*nb) Ws Ws Gu.o
  rw [← Gc.o,Gt.o,show ((64*nb:Nat):Int)=64*(nb:Int) by omega] at h1
  exact h1)
 have CB2:Hid (∀ (w2:World) (p:Nat) (l2:List UInt8) (bad:Bool),RdD w.heap.size w2 p l2 bad→(bad=true→l2=[])→l2.length≤1000000→Calls Tryz.prog 157 #[.pointer (some ⟨p,0,none⟩),.int .i64 32] w2 fun e w'=>(∃ a c,e = .returned (.slice a (rdB 32 l2 bad).1.length c)∧zp w' (.slice a (rdB 32 l2 bad).1.length c) (rdB 32 l2 bad).1∧(∀ g,zW (.slice a (rdB 32 l2 bad).1.length c)=some g→w2.heap.size≤g))∧RdD w.heap.size w' p (rdB 32 l2 bad).2.1 (rdB 32 l2 bad).2.2∧zb [p] w2 w'):=qI (fun w2 p l2 bad h hb2 hl2=>Zf h hb2 32 Wo Wo hl2)
 have Mp:=qI (rd_chain (64*nb) (32*nh) l)
 rw [← Gb.o,← Gc.o] at Mp
 have Gk:Hid (k.bits.toNat=nb∧k.height.toNat=nh):=qI Ws
 have hlb:(R1.1:Int)<4294967296:=by
  have h1:R1.1<4294967296:=by
   rw [Gb.o];unfold rdN
   split
   ·have h2:=Kl (l.take 4)
    rw [List.length_take,Nat.min_eq_left Ws] at h2
    exact h2
   ·decide
  omega
 have Mq:=qI hb
 have Gw:Hid (∀ g,zW (.slice a l.length c)=some g→g<w.heap.size):=qI (fun g hg=>hb.lt hg)
 clear hm2 hm hnb hnh hb hr hbk hnb0 hll
 generalize hln:l.length=ln at Mq Gw
 have Jp:=qI hln
 clear hln
 go_enter func124,ntmps124
 go_upto_region 1 with fail
 refine yq Gj.o ?_
 go_upto_region 4 with first
  | (refine zO Wk (.tmp 2) Wk HA.o Mn.o Wk ?_)
  | (go_at_call 46;refine CM.o.mh ?_;rintro e w2 rfl Gs)
 obtain⟨W3,Jq⟩:∃ W3,Hid (W3=w2.alloc (.cells #[.slice a ln c,.bool false] 209)):=⟨_,qI rfl⟩
 have HK3a:Hid (zb [] w2 W3):=qI (kA1 Jq.o)
 have Mr:Hid (zb [] W1 W3):=qI (Gs.o.then HK3a.o)
 have Gx:Hid (RdD w.heap.size W3 w2.heap.size l false):=qI ⟨by have:=Gs.o.size;have:=hS1.o;omega,a,c,by rw [Jp.o,Jq.o];exact zd rfl,by rw [Jp.o];exact Mq.o.kept0 (Jm.o.then Mr.o),by rw [Jp.o];exact Gw.o⟩
 have HP:Hid (w.heap.size+2≤w2.heap.size):=qI (by have:=Gs.o.size;have:=hS1.o;omega)
 rw [← Jq.o]
 generalize w2.heap.size=p at Gx HP ⊢
 go_upto_region 5 with (go_at_call 156;refine (CI.o _ _ Gx.o).mono ?_;rintro e w4 ⟨rfl,hrd,hk4⟩;have Gy:=qI hrd;have Yg:=qI hk4;clear hk4 hrd)
 obtain⟨W5,Jr⟩:∃ W5,Hid (W5=w4.alloc (.cells #[.int .i64 R1.1,.slice none 0 0,.slice none 0 0,.slice none 0 0] 82)):=⟨_,qI rfl⟩
 have HK5a:Hid (zb [] w4 W5):=qI (kA1 Jr.o)
 have Ms:Hid (zb [p] W1 W5):=qI (((Mr.o.mono Wz).trans' Yg.o).then HK5a.o)
 have Js:Hid (vu W5 w4.heap.size R1.1 (.slice none 0 0) (.slice none 0 0) (.slice none 0 0)):=qI (by rw [Jr.o];exact zd rfl)
 have Jt:=qI (Gy.o.kept HK5a.o Wz)
 have Gl:Hid (p<w4.heap.size):=qI Gy.o.lt
 rw [← Jr.o]
 have Mt:Hid (yw W5 w.heap.size k):=qI (Ms.o.heap HA.o (by have:=HP.o;simp;omega))
 have c0:=Mt.o.c0
 rw [Mo.o.1] at c0
 have Gz:Hid (w4.heap.size<W5.heap.size):=qI (lt_of_block Js.o)
 generalize hgs:w4.heap.size=gs at Js Gl Gz
 go_upto_region 6 with (go_at_call 157;refine (CB1.o _ _ Jt.o).mono ?_;rintro e w6 ⟨⟨a6,c6,rfl,hb6,hg6⟩,hrd,hk6⟩;have Yh:=qI hb6;have Yi:=qI hg6;have Ju:=qI hrd;have Jv:=qI hk6;clear hk6 hrd hb6 hg6)
 have Yj:Hid (yw w6 w.heap.size k):=qI (Jv.o.heap Mt.o (by have:=HP.o;simp;omega))
 clear c0
 have Mu:Hid (vu w6 gs R1.1 (.slice none 0 0) (.slice none 0 0) (.slice none 0 0)):=qI (Jv.o.heap Js.o (by have:=Gl.o;simp;omega))
 have Jw:Hid (zb [p] W1 w6):=qI (Ms.o.trans' Jv.o)
 have Mv:Hid (gs<w6.heap.size):=qI (lt_of_block Mu.o)
 go_wp2_with fail
 go_loopw [9,10,11,12] (fun iv _ _ _ wr=>∃ (i:Nat) (a3:Option Addr) (c3:Nat) (ps:List (List UInt8)) (l2:List UInt8) (bad:Bool),iv = .int .i64 i∧i≤nh∧Hid (ps.length=i)∧Hid (yC ps)∧Hid (vu wr gs R1.1 (.slice none 0 0) (.slice none 0 0) (.slice a3 i c3))∧Hid (wr.ownsRow w6.heap.size 45 32 (.slice a3 i c3) i (ps.flatten.map bv))∧Hid (RdD w.heap.size wr p l2 bad)∧Hid (WayD R2.2.1 R2.2.2 i l2 bad ps)∧Hid (zb [gs,p] w6 wr)) (fun iv _ _ _ _=>nh-(intOf iv).toNat)
 case atStart=>exact⟨0,none,0,[],R2.2.1,R2.2.2,rfl,Nat.zero_le _,qI rfl,qI yC.nil,Mu,qI (World.ownsRow_nil _ _ _ _),Ju,qI ⟨fun h=>by rw [Gc.o] at h ⊢;exact rdB_bad _ _ _ h,Wz,fun _=>⟨Wz,rfl⟩⟩,qI Wd⟩
 case round=>
  obtain⟨i,a3,c3,ps,l2,bad,rfl,hi,Gm,Jx,Jj,Gn,Mw,Ge,Ja⟩:=hrel
  have Yk:Hid (yw wr w.heap.size k):=qI (Ja.o.heap Yj.o (by have:=HP.o;have:=Gl.o;simp;omega))
  have c1:=Yk.o.c1
  rw [Mo.o.2] at c1
  have Yl:=qI Ja.o.size
  rcases Nat.lt_or_ge i nh with hlt | hge
  ·have hiI:(i:Int)<nh:=by omega
   have Jy:=qI hlt
   have Ym:Hid (l2.length≤1000000):=qI (by
    have h9:=Gv.o
    cases bad with
    | true=>rw [Ge.o.1 rfl];simp
    | false=>rw [(Ge.o.2.2 rfl).1,List.length_drop];omega)
   obtain⟨X,hX⟩:∃ X,X=(rdB 32 l2 bad).1:=⟨_,rfl⟩
   have Jk:Hid (X.length=32∧(rdB 32 l2 bad).2.2=false∨X=[]∧(rdB 32 l2 bad).2.2=true):=qI (by rw [hX];exact rdB_len 32 l2 bad)
   have CBX:=qI (CB2.o wr p l2 bad Mw.o Ge.o.1 Ym.o)
   have Jb:Hid (WayD R2.2.1 R2.2.2 (i+1) (rdB 32 l2 bad).2.1 (rdB 32 l2 bad).2.2 (ps++[vD X X.length])):=qI (Ge.o.next (fun hb=>by
    rcases Jk.o with ⟨e1,e2⟩ | ⟨e1,e2⟩
    ·rw [e1,Ky e1,hX]
    ·rw [e2] at hb;cases hb))
   rw [← hX] at CBX
   generalize (rdB 32 l2 bad).2.1=l3 at CBX Jb
   generalize (rdB 32 l2 bad).2.2=bad3 at CBX Jb Jk
   have Mx:Hid (X.length≤32):=qI (by rcases Jk.o with ⟨e1,-⟩ | ⟨e1,-⟩ <;> rw [e1] <;> simp)
   generalize hxn:X.length=xn at CBX Jk Jb Mx
   have My:=qI hxn
   clear hX hlt hi hxn
   go_upto_region 10 with (go_at_call 157;refine CBX.o.mono ?_;rintro e w8 ⟨⟨aX,cX,rfl,hb8,hg8⟩,hrd,hk8⟩;have Mz:=qI hb8;have Yz:=qI hg8;have Jz:=qI hrd;have Jl:=qI hk8;clear hk8 hrd hb8 hg8)
   clear c1
   go_upto_region 11 with fail
   obtain⟨W9,Ma⟩:∃ W9,Hid (W9=w8.alloc (.cells z32 45)):=⟨_,qI rfl⟩
   have Jc:Hid (zb [] w8 W9):=qI (kA1 Ma.o)
   have Ya:Hid (zR W9 w8.heap.size (vD X 0)):=qI (by rw [Ma.o];exact zd rfl)
   refine yq Ma.o ?_
   have hpd:Hid (wr.heap.size≤w8.heap.size):=qI Jl.o.size
   have Yb:Hid (∀ g,zW (.slice aX xn cX)=some g→g<w8.heap.size):=qI (fun g hg=>Mz.o.lt hg)
   generalize w8.heap.size=pd at Ya hpd Yb ⊢
   have hord:Hid (p<gs∧gs<w6.heap.size∧w6.heap.size≤pd):=qI ⟨Gl.o,Mv.o,by have:=Yl.o;have:=hpd.o;omega⟩
   have Mb:Hid (vu W9 gs R1.1 (.slice none 0 0) (.slice none 0 0) (.slice a3 i c3)):=qI (Jc.o.heap (Jl.o.heap Jj.o (by have:=hord.o;simp;omega)) Wz)
   have Mc:=qI (zo (zo Gn.o Jl.o (fun g hg hx=>by have:=(Gn.o.lt g hg).1;have:=hord.o;simp at hx;omega)) Jc.o Wz)
   have Md:=qI (Jz.o.kept Jc.o Wz)
   have Me:Hid (zb [gs,p] w6 W9):=qI ((Ja.o.trans' (Jl.o.mono Wz)).then Jc.o)
   have Yn:=qI (Mz.o.kept0 Jc.o)
   have Mf:Hid (∀ g,(Value.slice a3 i c3).ownBlock=some g→w6.heap.size≤g∧g<pd):=qI (fun g hg=>⟨(Gn.o.lt g hg).1,by have:=(Gn.o.lt g hg).2;have:=hpd.o;omega⟩)
   go_wp2_with fail
   go_loopw [12] (fun jv wq=>∃ j:Nat,jv = .int .i64 j∧j≤xn∧Hid (zR wq pd (vD X j))∧Hid (zb [pd] W9 wq)) (fun jv _=>xn-(intOf jv).toNat)
   case atStart=>exact⟨0,rfl,Nat.zero_le _,Ya,qI Wd⟩
   case round=>
    obtain⟨j,rfl,hj,HD,Gp⟩:=hrel
    rcases Nat.lt_or_ge j xn with hjl | hjg
    ·have hjI:(j:Int)<xn:=by omega
     have hj32:(j:Int)<32:=by have:=Mx.o;omega
     obtain⟨bX,oX,rfl,-,hrX⟩:=xy (size:=1) (n:=xn) (by have h9:=Yn.o;unfold zp at h9;rw [My.o] at h9;exact h9) Ws
     have hbX:bX≠pd:=by have:=Yb.o bX (ji Ws);omega
     have cx:wr.cell? ⟨bX,oX+j,none⟩=some (bv (X.getD j 0)):=Gp.o.cell (hrX.cells j _ (by rw [List.getElem?_map,List.getD,List.getElem?_eq_getElem (by rw [My.o];exact hjl)];rfl)) (by simpa using hbX)
     have xd:=Qx HD.o j Ws
     have fd:=zh (o:=j) HD.o
     have HV:Hid (Value.int .u8 (X.getD j 0).toNat=bv (X.getD j 0)):=qI rfl
     unfold bv at cx xd
     generalize (X.getD j 0).toNat=vx at cx HV
     generalize ((vD X j)[j]'(by rw [vC];omega)).toNat=yx at xd
     have Yc:=qI hjl
     have Yo:Hid (j<32):=qI Ws
     clear hjl hj hrX
     go_wp2_with fail
     case roundEnd=>exact⟨⟨j+1,by go_num,Yc.o,qI (zg HD.o (Kz X j Yo.o _ HV.o)),qI (Gp.o.trans' ((zb.refl [pd] _).setCell (.inl Wz) _))⟩,by have:=Yc.o;simp [intOf];omega⟩
    ·obtain rfl:j=xn:=by omega
     have Jd:=qI (vC X j)
     generalize vD X j=Y at HD Jb Jd
     have HSGq:Hid (vu wr gs R1.1 (.slice none 0 0) (.slice none 0 0) (.slice a3 i c3)):=qI (Gp.o.heap Mb.o (by have:=hord.o;simp;omega))
     have HOWq:=qI (zo Mc.o Gp.o (fun g hg hx=>by have:=(Mf.o g hg).2;simp at hx;omega))
     have HRDq:=qI (Md.o.kept Gp.o (fun x hx=>by have:=hord.o;have:=HP.o;simp at hx;omega))
     have HKRq:Hid (zb [gs,p] w6 wr):=qI (Me.o.trans Gp.o (fun x hx=>by have:=hord.o;simp at hx;subst hx;exact .inr Ws))
     have f3:=za (o:=3) HSGq.o rfl
     have Yp:Hid (∀ ob w10 a5 c5,w10.ownsRow w6.heap.size 45 32 (.slice a5 (i+1) c5) (i+1) (ps.flatten.map bv++Y.map bv)→zb (Value.slice a3 i c3).ownBlock.toList (wr.alloc ob) w10→w10.cell? ⟨gs,3,none⟩=some (.slice a3 i c3)∧w10.frozen? ⟨gs,3,none⟩=false∧vu (w10.setCell ⟨gs,3,none⟩ (.slice a5 (i+1) c5)) gs R1.1 (.slice none 0 0) (.slice none 0 0) (.slice a5 (i+1) c5)∧(w10.setCell ⟨gs,3,none⟩ (.slice a5 (i+1) c5)).ownsRow w6.heap.size 45 32 (.slice a5 (i+1) c5) (i+1) ((ps++[Y]).flatten.map bv)):=qI (fun ob w10 a5 c5 h1 h2=>by
      have h:=way_push (w:=wr.alloc ob) (a:=a3) (c:=c3) (ps:=ps) (x:=Y) (a5:=a5) (c5:=c5) (by rw [Gm.o];exact ((zb.refl [] _).alloc ob).heap HSGq.o Wz) (by rw [Gm.o];exact zo HOWq.o ((zb.refl [] _).alloc ob) Wz) (by rw [Gm.o];exact h1) (by rw [Gm.o];exact h2)
      rw [Gm.o] at h
      exact h)
     have Yd:Hid (i+1≤256):=qI (by have:=Jy.o;omega)
     have Da:¬ ((j:Int)<j):=Ws
     clear hjg hj
     go_wp2_with first
      | (refine zP Wk (.tmp 11) Wk HD.o Jd.o Wk ?_)
      | (refine yB underlying73 xU jx Wo Wo Wk _ rfl (cs:=Y.map bv) (by simp [Jd.o]) Wk ?_)
      | (at_builtin;refine zk YE (base:=w6.heap.size) (v:=.slice a3 i c3) (n:=i) (m:=1) (xs:=ps.flatten.map bv) (news:=Y.map bv) (zo HOWq.o ((zb.refl [] _).alloc _) Wz) (zT _ (Y.map bv) 32 1 _ _ rfl (by simp [Jd.o]) Wo) (yL _) (by have:=Yd.o;simp only [maxLen];omega) (by have:=Yd.o;omega) ((HKRq.o.alloc _).size) rfl _ _ rfl rfl rfl ?_;intro v10 w10 hown hk10 _ _;obtain⟨a5,c5,rfl,-,-⟩:=(Slc.of_row hown).form;obtain⟨u0,uf,hsg,how⟩:=Yp.o _ _ _ _ hown hk10;have Mg:=qI hsg;have Mh:=qI how;have Mi:=qI (((HRDq.o.kept ((zb.refl [] _).alloc _) Wz).kept hk10 (fun x hx=>by have:=Mf.o x (Option.mem_toList.1 hx);have:=hord.o;have:=HP.o;omega)).kept ((zb.refl [gs] w10).setCell (p:=⟨gs,3,none⟩) (.inl Wz) (.slice a5 (i+1) c5)) (fun x hx=>by have:=hord.o;have:=HP.o;simp at hx;omega));have Mj:=qI (((HKRq.o.alloc _).trans hk10 (fun x hx=>.inr (Mf.o x (Option.mem_toList.1 hx)).1)).setCell (p:=⟨gs,3,none⟩) (.inl Wz) (.slice a5 (i+1) c5));clear hown hk10 hsg how f3)
     case roundEnd=>exact⟨⟨i+1,a5,c5,ps++[Y],l3,bad3,by go_num,Jy.o,qI (by rw [List.length_append,Gm.o];rfl),qI (Jx.o.snoc Jd.o),Mg,Mh,Mi,Jb,Mj⟩,by have:=Jy.o;simp [intOf];omega⟩
  ·obtain rfl:i=nh:=by omega
   have hiI:¬ ((i:Int)<i):=Ws
   obtain⟨ra,rc,hrb,-,-⟩:=Mw.o.val
   have q0:=za (o:=0) hrb rfl
   have q1:=za (o:=1) hrb rfl
   have s0:=za (o:=0) Jj.o rfl
   have hord:Hid (p<gs∧gs<w6.heap.size∧w.heap.size+2≤p):=qI ⟨Gl.o,Mv.o,HP.o⟩
   have Je:Hid (zb [gs,p] W1 wr):=qI ((Jw.o.mono Wz).trans' Ja.o)
   have Gg:=qI (Je.o.heap Mm.o (by have:=hord.o;simp;omega))
   have Jf:Hid (zb [] w wr):=qI (Jm.o.trans Je.o (fun x hx=>by have:=hord.o;simp at hx;rcases hx with rfl | rfl <;> exact .inr Ws))
   have r0:=za (o:=0) Gg.o rfl
   have r1:=za (o:=1) Gg.o rfl
   have r2:=za (o:=2) Gg.o rfl
   have r3:=za (o:=3) Gg.o rfl
   have z:∀ j,wr.frozen? ⟨w.heap.size+1,j,none⟩=false:=fun j=>zh Gg.o
   have hlen:=(way_end Ge.o).trans Mp.o
   clear hi hge hrb
   have Gf:Hid (l2=[]↔l2.length=0):=qI (by rw [List.length_eq_zero_iff])
   have Jg:(l2.length:Int)≤1000000:=by
    have h9:=Gv.o
    cases bad with
    | true=>rw [Ge.o.1 rfl];simp
    | false=>rw [(Ge.o.2.2 rfl).1,List.length_drop];omega
   generalize l2.length=m2 at q0 Gf Jg
   have Mk:Hid (¬ (l.length=4+64*nb+32*i∧R1.1≤1073741824)→¬ (zI k=true∧qZ k.bits.toNat k.height.toNat l=true)):=qI (fun h h2=>by
    have h3:=h2.2
    rw [Gk.o.1,Gk.o.2] at h3
    unfold qZ at h3
    simp only [Bool.and_eq_true,decide_eq_true_eq] at h3
    refine h ⟨h3.1,?_⟩
    rw [Gb.o,(Kj (64*nb) (32*i) l h3.1).1]
    exact h3.2)
   by_cases hok:(bad=false∧m2=0)∧R1.1≤1073741824
   rotate_left
   ·have Jn:=qI (Mk.o (fun h=>hok ⟨⟨(hlen.2 h.1).1,Gf.o.1 (hlen.2 h.1).2⟩,h.2⟩))
    have hcs:bad=true∨(bad=false∧(0:Int)<m2)∨(bad=false∧m2=0∧(1073741824:Int)<R1.1):=by
     cases bad with
     | true=>exact .inl rfl
     | false=>
      rcases Nat.eq_zero_or_pos m2 with h0 | h0
      ·exact .inr (.inr ⟨rfl,h0,by have h9:¬ R1.1≤1073741824:=fun h=>hok ⟨⟨rfl,h0⟩,h⟩;omega⟩)
      ·exact .inr (.inl ⟨rfl,Ws⟩)
    clear hok hlen
    have hcs:bad=true∨(∃ m3,bad=false∧m2=m3+1∧(0:Int)<m3+1)∨(bad=false∧m2=0∧(1073741824:Int)<R1.1):=hcs.imp_right (Or.imp_left (fun h=>⟨m2-1,h.1,Ws,Ws⟩))
    rcases hcs with rfl | ⟨m3,rfl,rfl,h1⟩ | ⟨rfl,rfl,h1⟩
    all_goals
     clear Jg
     go_wp2_with fail
     change bodyPost _ _ _ _ _ (vE wr (w.heap.size+1) 0 (.slice none 0 0) (.slice none 0 0) (.slice none 0 0))
     have Gd:=qS wr (w.heap.size+1) 0 (.slice none 0 0) (.slice none 0 0) (.slice none 0 0)
     have Ga:=jE Gg.o 0 (.slice none 0 0) (.slice none 0 0) (.slice none 0 0)
     generalize vE wr (w.heap.size+1) 0 (.slice none 0 0) (.slice none 0 0) (.slice none 0 0)=WF at Gd Ga
     have y0:=za (o:=0) Ga rfl
     have y1:=za (o:=1) Ga rfl
     have y2:=za (o:=2) Ga rfl
     have y3:=za (o:=3) Ga rfl
     refine bodyPost_ret (v:=.tuple #[.agg #[.int .i64 0,.slice none 0 0,.slice none 0 0,.slice none 0 0],.int .i64 11]) (by simp [results,results124,go_sem,y0,y1,y2,y3]) rfl ⟨Gr.o _ _ 11 Wo Wo Wo Jn.o rfl,?_⟩
     exact Jf.o.trans Gd (by intro i hi;simp at hi;subst hi;exact .inr Ws)
   ·obtain⟨⟨rfl,rfl⟩,hlf⟩:=hok
    have Gh:=qI (hlen.1 ⟨rfl,Gf.o.2 rfl⟩)
    have hq:¬ ((1073741824:Int)<R1.1):=Ws
    have Yq:=qI hlf
    obtain⟨v1,v2,v3⟩:=Kj (64*nb) (32*i) l Gh.o
    rw [← Gb.o] at v1 v2 v3
    rw [← Gc.o] at v2 v3
    have Yr:Hid (n2=64*nb):=qI (by rw [← Gt.o,v2,List.length_take,List.length_drop];have:=Gh.o;omega)
    have Ys:Hid (ps=vy 32 i ((l.drop (4+64*nb)).take (32*i))):=qI (by
     rw [← v3,(Ge.o.2.2 rfl).2]
     have h1:=(Ge.o.2.1.1 rfl)
     have h2:=(Ge.o.2.2 rfl).1
     rw [Gf.o.2 rfl] at h2
     have h3:R2.2.1.length=32*i:=by
      have h4:=congrArg List.length h2
      rw [List.length_drop] at h4
      simp at h4
      omega
     unfold rdB
     rw [if_pos ⟨h1.2,h1.1⟩]
     show _=vy 32 i (R2.2.1.take (32*i))
     rw [List.take_of_length_le Ws])
    have HV:=qI (And.intro v1 v2)
    have Yt:Hid (zp wr (.slice a6 n2 c6) R2.1):=qI (Yh.o.kept Ja.o (fun g hg hx=>by
     have h2:=Yi.o g hg
     have h3:=Gz.o
     have h4:=Gl.o
     simp at hx
     omega))
    have CL:Hid (Calls Tryz.prog 158 #[.slice a6 n2 c6] wr fun e w'=>(∃ a1 c1 a2 c2,e = .returned (.tuple #[.agg #[.slice a1 nb c1,.slice a2 nb c2],.int .i64 0])∧Slc w' 32 (.slice a1 nb c1) nb ((jD nb R2.1).rev.flatten.map bv)∧Slc w' 32 (.slice a2 nb c2) nb ((jD nb R2.1).oth.flatten.map bv)∧(∀ g,zW (.slice a1 nb c1)=some g→wr.heap.size≤g)∧(∀ g,zW (.slice a2 nb c2)=some g→wr.heap.size≤g))∧zb [] wr w'):=qI (by
     have h9:=refDec07_any (w:=wr) (N:=nb) (l:=R2.1) (a:=a6) (c:=c6) (by rw [Gt.o];exact Yt.o) (by rw [Gt.o];exact Yr.o) Yf.o
     rw [Gt.o] at h9
     exact h9)
    have Yu:=qI (lt_of_block Jj.o)
    clear v1 v2 v3 hlf hlen r0 r1 r2 r3 z
    go_upto_region 19 with (go_at_call 158;refine CL.o.mono ?_;rintro e w10 ⟨⟨a1,c1',a2,c2,rfl,hs1,hs2,hg1,hg2⟩,hk10⟩;have Yv:=qI hs1;have Yw:=qI hs2;have Yx:=qI hg1;have Yy:=qI hg2;have Gi:=qI hk10;have hb10:=hk10.heap Jj.o Wz;have g1:=za (o:=1) hb10 rfl;have g2:=za (o:=2) hb10 rfl;have gz:∀ j,w10.frozen? ⟨gs,j,none⟩=false:=fun j=>zh hb10;have Ml:=qI hb10;clear hs1 hs2 hg1 hg2 hk10 hb10 q0 q1 s0)
    have Jh:Hid (zb [gs] w10 ((w10.setCell ⟨gs,1,none⟩ (.slice a1 nb c1')).setCell ⟨gs,2,none⟩ (.slice a2 nb c2))):=qI (((zb.refl [gs] w10).setCell (.inl Wz) _).setCell (.inl Wz) _)
    have Ji:Hid (vu ((w10.setCell ⟨gs,1,none⟩ (.slice a1 nb c1')).setCell ⟨gs,2,none⟩ (.slice a2 nb c2)) gs R1.1 (.slice a1 nb c1') (.slice a2 nb c2) (.slice a3 i c3)):=qI (by
     have h1:=zg (i:=1) (v:=.slice a1 nb c1') (d:=#[.int .i64 R1.1,.slice a1 nb c1',.slice none 0 0,.slice a3 i c3]) Ml.o rfl
     exact zg (i:=2) (v:=.slice a2 nb c2) (d:=#[.int .i64 R1.1,.slice a1 nb c1',.slice a2 nb c2,.slice a3 i c3]) h1 rfl)
    clear g1 g2 gz
    generalize (w10.setCell ⟨gs,1,none⟩ (.slice a1 nb c1')).setCell ⟨gs,2,none⟩ (.slice a2 nb c2)=WG at Jh Ji
    have Gq:=qI (Jh.o.heap (Gi.o.heap Gg.o Wz) (by have:=hord.o;simp;omega))
    have g0:=za (o:=0) Ji.o rfl
    have g1:=za (o:=1) Ji.o rfl
    have g2:=za (o:=2) Ji.o rfl
    have g3:=za (o:=3) Ji.o rfl
    have r0:=za (o:=0) Gq.o rfl
    have r1:=za (o:=1) Gq.o rfl
    have r2:=za (o:=2) Gq.o rfl
    have r3:=za (o:=3) Gq.o rfl
    have rz:∀ j,WG.frozen? ⟨w.heap.size+1,j,none⟩=false:=fun j=>zh Gq.o
    go_wp2_with fail
    change bodyPost _ _ _ _ _ (vE WG (w.heap.size+1) R1.1 (.slice a1 nb c1') (.slice a2 nb c2) (.slice a3 i c3))
    have Gd:=qS WG (w.heap.size+1) R1.1 (.slice a1 nb c1') (.slice a2 nb c2) (.slice a3 i c3)
    have Ga:=jE Gq.o R1.1 (.slice a1 nb c1') (.slice a2 nb c2) (.slice a3 i c3)
    generalize vE WG (w.heap.size+1) R1.1 (.slice a1 nb c1') (.slice a2 nb c2) (.slice a3 i c3)=WF at Gd Ga
    have y0:=za (o:=0) Ga rfl
    have y1:=za (o:=1) Ga rfl
    have y2:=za (o:=2) Ga rfl
    have y3:=za (o:=3) Ga rfl
    have hall:∀ {v:Value}{xs:List Value},Slc w10 32 v nb xs→(∀ g,zW v=some g→wr.heap.size≤g)→Slc WF 32 v nb xs:=fun {v xs} h h2=>by
     have:=hord.o
     have:=Yu.o
     exact (h.kept Jh.o (fun g hg hx=>by have:=h2 g hg;simp at hx;omega)).kept Gd (fun g hg hx=>by have:=h2 g hg;simp at hx;omega)
    have hway:Slc WF 32 (.slice a3 i c3) i (ps.flatten.map bv):=by
     have hb9:∀ g,zW (.slice a3 i c3)=some g→w6.heap.size≤g:=fun g hg=>(Gn.o.lt g (z6 hg)).1
     have:=hord.o
     exact (((Slc.of_row Gn.o).kept0 Gi.o).kept Jh.o (fun g hg hx=>by have:=hb9 g hg;simp at hx;omega)).kept Gd (fun g hg hx=>by have:=hb9 g hg;simp at hx;omega)
    have hfit:zI k=true∧qZ k.bits.toNat k.height.toNat l=true:=by
     refine⟨Jo.o,?_⟩
     rw [Gk.o.1,Gk.o.2]
     unfold qZ
     rw [Bool.and_eq_true,decide_eq_true_eq,decide_eq_true_eq,← HV.o.1]
     exact⟨Gh.o,Yq.o⟩
    have hsig:xS nb i l=⟨R1.1,jD nb R2.1,ps⟩:=by
     unfold xS
     rw [HV.o.1,HV.o.2,Ys.o]
    refine bodyPost_ret (v:=.tuple #[.agg #[.int .i64 R1.1,.slice a1 nb c1',.slice a2 nb c2,.slice a3 i c3],.int .i64 0]) (by simp [results,results124,go_sem,y0,y1,y2,y3]) rfl ⟨?_,?_⟩
    ·unfold ju
     rw [if_pos hfit,Gk.o.1,Gk.o.2,hsig]
     exact⟨a1,c1',a2,c2,a3,c3,rfl,hall Yv.o Yx.o,hall Yw.o Yy.o,hway⟩
    ·exact ((Jf.o.then Gi.o).trans Jh.o (by have:=hord.o;intro i hi;simp at hi;subst hi;exact .inr Ws)).trans Gd (by intro i hi;simp at hi;subst hi;exact .inr Ws)
end Go.Proofs.YtibnfbglanpoiaaGreatDoor

/- Parts of one proof, merged: XCJ. -/
import Derived.Test.YtibnfbglanpoiaaGreatDoorQeZ
set_option linter.all false
set_option maxHeartbeats 12800000
set_option maxRecDepth 10000
namespace Go.Proofs.YtibnfbglanpoiaaGreatDoor
open Go.Proofs.Tryz
open Go.RowKit
theorem flat32 {α:Type}:∀ (ls:List (List α)) (k i:Nat) (_:∀ x,x∈ls→x.length=32) (hk:k<ls.length),i<32→ls.flatten[k*32+i]? = ls[k][i]?
 | [],_,_,_,hk,_=>by simp at hk
 | x::t,0,i,h,_,hi=>by
  have hx:=h x Wz
  rw [List.flatten_cons,Nat.zero_mul,Nat.zero_add,List.getElem?_append_left Ws]
  rfl
 | x::t,k+1,i,h,hk,hi=>by
  have hx:=h x Wz
  rw [List.flatten_cons,List.getElem?_append_right Ws,show (k+1)*32+i-x.length=k*32+i by omega,flat32 t k i (fun y hy=>h y (List.mem_cons_of_mem _ hy)) (by simpa using hk) hi]
  rfl
theorem Qk {w:World}{g o:Nat}{ls:List (List UInt8)}(h:Row w g o (ls.flatten.map bv)) (h32:yC ls) (k:Nat) (hk:k<ls.length):w.rangeAt g (o+k*32) (ls[k].map bv):=fun j v hv=>by
 have hj:j<32:=by
  have:=(List.getElem?_eq_some_iff.1 hv).1
  rw [List.length_map,h32 _ (List.getElem_mem hk)] at this
  exact this
 rw [Nat.add_assoc]
 refine h.cells (k*32+j) v ?_
 rw [List.getElem?_map] at hv ⊢
 rw [flat32 ls k j h32 hk hj]
 exact hv
theorem xy {w:World}{size:Nat}{a:Option Addr}{n c:Nat}{xs:List Value}(h:Slc w size (.slice a n c) n xs) (hn:0<n):∃ g o,a=some ⟨g,o,none⟩∧n≤c∧Row w g o xs:=by
 rcases h.2 with ⟨_,h0⟩ | ⟨h0,_⟩ | ⟨g,o,cap,h1,h2,-,h3⟩
 ·omega
 ·omega
 ·simp only [Value.slice.injEq] at h1
  obtain⟨rfl,-,rfl⟩:=h1
  exact⟨g,o,rfl,h2,h3⟩
theorem zS {ops:Array Oper}{rest:List Oper}{op:Oper}{a:Act}{w:World}{Q:Exit→Act→World→Prop}(hgd:op.guard=none) (x:Operand) (ho:op.op = .load 45 x) {g of:Nat}{l:List UInt8}(h0:w.rangeAt g of (l.map bv)) (hl:l.length=32)
  (hx:a.eval x = .pointer (some ⟨g,of,none⟩)) (h:wpList Tryz.prog ops Q rest (a.put op.dst (.agg (l.map bv).toArray)) w):wpList Tryz.prog ops Q (op::rest) a w:=
 wpList_load_mid hgd 45 x ho g of hx (l.map bv) _ h0 underlying45 rfl (by rw [List.length_map,hl];exact xU) h
theorem Qe (w:World) (a1 a2:Option Addr) (n c1 c2:Nat) (hm:yv n=true) :
  CL w 111 #[.agg #[.slice a1 n c1,.slice a2 n c2]] (.bool true):=by
 have hn:8≤n∧n≤256:=by
  unfold yv at hm
  simp only [Bool.and_eq_true,decide_eq_true_eq] at hm
  omega
 obtain⟨W1,Gd⟩:∃ W1,Hid (W1=w.alloc (.cells #[.slice a1 n c1,.slice a2 n c2] 80)):=⟨_,qI rfl⟩
 have Ge:Hid (zb [] w W1):=qI (kA1 Gd.o)
 have hb:W1.heap[w.heap.size]? = some (.cells #[.slice a1 n c1,.slice a2 n c2] 80 (0,0)):=by rw [Gd.o];exact zd rfl
 have f0:=za (o:=0) hb rfl
 have f1:=za (o:=1) hb rfl
 have CM:Hid (Calls Tryz.prog 68 #[.int .i64 n] W1 fun e w'=>e = .returned (.bool true)∧W1=w'):=qI (by have h1:=jU n Ws Ws W1;rw [hm] at h1;exact h1)
 clear hm hb
 go_enter func111,ntmps111
 go_upto_region 1 with fail
 rw [← Gd.o]
 go_wp2_with (go_at_call 68;refine CM.o.mono ?_;rintro e w' ⟨rfl,rfl⟩)
 go_ret
 exact⟨rfl,Ge.o⟩
theorem imp_len {m:List UInt8}{o:ZD}(h1:yC o.rev) (h2:yC o.oth) (hl:o.oth.length=o.rev.length) {b:Nat}(hb:b<o.rev.length):(bA m o b).length=64:=by
 have h3:=jP h1 h2 hl hb
 unfold bA
 split <;> rw [List.length_append,yt] <;> omega
theorem KN {m:List UInt8}{o:ZD}(h1:yC o.rev) (h2:yC o.oth) (hl:o.oth.length=o.rev.length):∀ k,k≤o.rev.length→(((List.range k).map (bA m o)).flatten).length=64*k
 | 0,_=>rfl
 | k+1,hk=>by
  rw [jR,List.length_append,KN h1 h2 hl k Ws,imp_len h1 h2 hl Ws]
  omega
theorem J7 {w:World}{am:Option Addr}{cm:Nat}{m:List UInt8}(hbm:zp w (.slice am m.length cm) m) (hm:m.length≤1048576) {s:ZD}{a1 a2:Option Addr}{c1 c2 n:Nat}(hn:s.rev.length=n) (hn2:s.oth.length=n) (hr32:yC s.rev) (ho32:yC s.oth) (hs1:Slc w 32 (.slice a1 n c1) n (s.rev.flatten.map bv)) (hs2:Slc w 32 (.slice a2 n c2) n (s.oth.flatten.map bv)) (hmb:yv n=true) (hks:xN w) :
  CL w 137 #[.slice am m.length cm,.agg #[.slice a1 n c1,.slice a2 n c2]] (.tuple #[.agg ((xG m s).map bv).toArray,.int .i64 0]):=by
 have hn8:8≤n∧n≤256:=by
  unfold yv at hmb
  simp only [Bool.and_eq_true,decide_eq_true_eq] at hmb
  omega
 obtain⟨g1,o1,rfl,-,hr1⟩:=xy hs1 Ws
 obtain⟨g2,o2,rfl,-,hr2⟩:=xy hs2 Ws
 obtain⟨W1,Gd⟩:∃ W1,Hid (W1=(w.alloc (.cells #[.slice (some ⟨g1,o1,none⟩) n c1,.slice (some ⟨g2,o2,none⟩) n c2] 80)).alloc (.cells z32 45)):=⟨_,qI rfl⟩
 have Ge:Hid (zb [] w W1):=qI (kA2 Gd.o)
 have Gq:Hid (W1.heap[w.heap.size]? = some (.cells #[.slice (some ⟨g1,o1,none⟩) n c1,.slice (some ⟨g2,o2,none⟩) n c2] 80 (0,0))):=qI (by rw [Gd.o];exact ((zb.refl [] _).alloc _).heap (zd rfl) Wz)
 have Jj:Hid (zR W1 (w.heap.size+1) (xe zu 0)):=qI (by rw [Gd.o];exact zd Wz)
 have f0:=za (o:=0) Gq.o rfl
 have f1:=za (o:=1) Gq.o rfl
 have CW:=qI (Qe W1 (some ⟨g1,o1,none⟩) (some ⟨g2,o2,none⟩) n c1 c2 hmb)
 have Gu:=qI (hks.kept0 Ge.o)
 have CO:Hid (Cq W1 147 #[.slice am m.length cm] (.agg ((kh m).map bv).toArray)):=qI (fun w2 hk=>lamOf_any ((hbm.kept0 Ge.o).kept0 hk) hm (Gu.o.kept0 hk))
 have Gk:=qI (hr1.kept Ge.o Wz)
 have Gl:=qI (hr2.kept Ge.o Wz)
 have CDG:Hid (∀ (w3:World) (b:Nat),b<256→Calls Tryz.prog 148 #[.agg ((kh m).map bv).toArray,.int .i64 b] w3 fun e w'=>e = .returned (.int .i64 (yT (kh m) b))∧zb [] w3 w'):=qI (fun w3 b h=>QR w3 (kh m) (Y4 m) b h)
 have HM:Hid (∀ b,bA m s b=if yT (kh m) b=0 then zV (s.rev.getD b [])++s.oth.getD b [] else s.oth.getD b []++zV (s.rev.getD b [])):=qI (fun _=>rfl)
 have Jk:Hid (xG m s=vF Kh [((List.range n).map (bA m s)).flatten]):=qI (by unfold xG;rw [hn])
 have Jc:Hid (∀ k,k≤n→(((List.range k).map (bA m s)).flatten).length=64*k):=qI (fun k hk=>KN hr32 ho32 Ws k Ws)
 have Gm:Hid (∀ k,yT (kh m) k<2):=qI (fun k=>ZW _ _)
 have Jl:=qI hn
 have Jm:=qI hn2
 have H32:=qI (And.intro hr32 ho32)
 have hnI:(n:Int)≤256:=Ws
 have hmI:(m.length:Int)≤1048576:=Ws
 have Gr:=qI hn8
 clear hbm hm hs1 hs2 hks hmb hr1 hr2 hr32 ho32 hn hn2 hn8
 generalize hmn:m.length=mn at CO hmI
 generalize kh m=md at CO CDG HM Gm
 go_enter func137,ntmps137
 go_upto_region 1 with fail
 refine yq Gd.o ?_
 go_upto_region 6 with first
  | (go_at_call 111;refine CW.o.mh ?_;rintro e w2 rfl Jd)
  | (go_at_call 147;refine (CO.o _ Jd.o).mono ?_;rintro e ws ⟨rfl,hk3⟩;have Jn:=qI hk3;clear hk3)
 obtain⟨W4,Je⟩:∃ W4,Hid (W4=ws.alloc (.cells #[.slice none 0 0] 109)):=⟨_,qI rfl⟩
 have Gv:Hid (qu ws ws.heap.size W4 []):=qI (by rw [Je.o];exact sumsNew ws)
 have Gb:Hid (zb [] W1 ws):=qI (Jd.o.then Jn.o)
 have c1':=(Gb.o.then Gv.o.kept).cell f0 Wz
 clear f0
 go_upto_region 7 with fail
 rw [← Je.o]
 generalize hp:ws.heap.size=p at Gv
 have HP:=qI hp
 clear hp
 go_wp2_with fail
 go_loopw [8,9,28] (fun _ _ i wr=>∃ k:Nat,i = .int .i64 k∧k≤n∧qu ws p wr ((List.range k).map (bA m s)).flatten) (fun _ _ i _=>n-(intOf i).toNat)
 case atStart=>exact⟨0,rfl,Nat.zero_le _,Gv.o⟩
 case round=>
  obtain⟨k,rfl,hk,hsm⟩:=hrel
  have Gf:=qI hsm
  clear hsm c1'
  rcases Nat.lt_or_ge k n with h8 | h8
  ·have h8I:(k:Int)<n:=by omega
   have Jf:=qI h8I
   have Gs:=qI h8
   have Gg:Hid (zb [] W1 wr):=qI (Gb.o.then Gf.o.kept)
   have hkr:k<s.rev.length:=by rw [Jl.o];exact h8
   have hko:k<s.oth.length:=by rw [Jm.o];exact h8
   have Jg:Hid (wr.rangeAt g1 (o1+k*32) (s.rev[k].map bv)):=qI (Qk (Gk.o.kept Gg.o Wz) H32.o.1 k hkr)
   have Gh:Hid (wr.rangeAt g2 (o2+k*32) (s.oth[k].map bv)):=qI (Qk (Gl.o.kept Gg.o Wz) H32.o.2 k hko)
   have Gj:Hid (s.rev[k].length=32):=qI (H32.o.1 _ (List.getElem_mem _))
   have Gn:Hid (s.oth[k].length=32):=qI (H32.o.2 _ (List.getElem_mem _))
   have Gi:Hid (bA m s k=if yT md k=0 then zV s.rev[k]++s.oth[k] else s.oth[k]++zV s.rev[k]):=qI (by
    rw [HM.o,List.getD,List.getElem?_eq_getElem hkr,List.getD,List.getElem?_eq_getElem hko];rfl)
   have Jh:=qI (jR (bA m s) k)
   have Ji:=qI (Jc.o k Ws)
   have CU':Hid (Cq W1 71 #[.agg (s.rev[k].map bv).toArray] (.agg ((zV s.rev[k]).map bv).toArray)):=qI (fun w3 hk3=>bU w3 _ Gj.o (Gu.o.kept0 hk3))
   have Gw:Hid ((zV s.rev[k]).length=32):=qI (yt _)
   have CD:Hid (∀ w3,Calls Tryz.prog 148 #[.agg (md.map bv).toArray,.int .i64 k] w3 fun e w'=>e = .returned (.int .i64 (yT md k))∧zb [] w3 w'):=qI (fun w3=>CDG.o w3 k (by have:=Gr.o;omega))
   have Gx:=qI (Gm.o k)
   have f1:=Gg.o.cell f1 Wz
   generalize zV s.rev[k]=u1 at CU' Gi Gw
   generalize s.rev[k]=x1 at Jg Gj CU'
   generalize s.oth[k]=y1 at Gh Gn Gi
   generalize yT md k=sd at CD Gi Gx
   clear hkr hko h8
   go_upto_region 10 with first
    | (refine zS Wk _ rfl (g:=g1) (of:=o1+k*32) Jg.o Gj.o Wk ?_)
    | (refine zq Wk (.tmp 9) (.tmp 32) Wk (g:=wr.heap.size) (l0:=xe zu 0) (zd rfl) (zJ _ _) Gj.o Wk Wk ?_;intro w4 h4 hk4;have Gp:=qI h4;have Gt:Hid (zb [] wr w4):=qI (((zb.refl [] wr).alloc _).trans hk4 (by intro i hi;simp at hi;subst hi;exact .inr (Nat.le_refl _)));clear h4 hk4;simp only [Act.put])
   have hsd:sd=0∨sd=1:=by have:=Gx.o;omega
   clear f1 Gx
   rcases hsd with rfl | rfl
   ·rw [if_pos rfl] at Gi
    go_upto_region 11 with (go_at_call 148;refine (CD.o _).mh ?_;rintro e w5 rfl Gc)
    have Ga:=qI (Gt.o.then Gc.o)
    have Gy:=qI (Gp.o.kept0 Gc.o)
    have Gz:Hid (w5.rangeAt g2 (o2+k*32) (y1.map bv)):=qI (fun j v hv=>Ga.o.cell (Gh.o j v hv) Wz)
    have f1:=za (o:=1) ((Gg.o.then Ga.o).heap Gq.o Wz) rfl
    have CU:Hid (∀ w3,zb [] w5 w3→_):=qI (fun w3 h=>CU'.o w3 ((Gg.o.then Ga.o).then h))
    have CA:Hid (∀ w3,zb [] w5 w3→Calls Tryz.prog 70 #[.pointer (some ⟨p,0,none⟩),.agg (u1.map bv).toArray,.agg (y1.map bv).toArray] w3 fun e w'=>e = .returned (.tuple #[])∧qu ws p w' ((List.range (k+1)).map (bA m s)).flatten):=qI (fun w3 h=>by
     have h1:=vN (Gf.o.kept0 (Ga.o.then h)) Gw.o Gn.o (by have:=Ji.o;have:=Gr.o;omega)
     rw [Jh.o,Gi.o,← List.append_assoc]
     exact h1)
    refine zK (n:=58) 8 [fI (.pointer (some ⟨p,0,none⟩)),
     fI (.agg (x1.map bv).toArray),
     fI (.agg (u1.map bv).toArray),
     fI (.pointer (some ⟨w.heap.size,1,none⟩)),
     fI (.slice (some ⟨g2,o2,none⟩) n c2),
     fI (.int .i64 k),
     fI (.pointer (some ⟨g2,o2+k*32,none⟩)),
     fI (.agg (y1.map bv).toArray)] Wr rfl Wr (fun x=>yH) ?_ ?_
    ·refine⟨?_,?_,?_,?_,?_,?_,?_,?_,trivial⟩ <;> intro x w2 hkw b hd
     ·exact ze
     ·change wpList _ _ _ [_] _ _
      refine zP Wk (.tmp 9) Wk (Gy.o.kept0 hkw) Gj.o Wk ?_
      exact⟨rfl,_,rfl,rfl,Wd⟩
     ·have d1:x 1=_:=hd 1 Wr
      have CX:=CU.o w2 hkw
      go_wp2_with (go_at_call 71;refine CX.mh ?_;rintro e w5 rfl Gc)
      exact⟨rfl,Gc.o⟩
     ·exact ze
     ·have d3:x 3=_:=hd 3 Wr
      have y0:=hkw.cell f1 Wz
      exact ze
     ·exact ze
     ·have d4:x 4=_:=hd 4 Wr
      have d5:x 5=_:=hd 5 Wr
      have hkN:=Jf.o
      exact ze
     ·have d6:x 6=_:=hd 6 Wr
      change wpList _ _ _ [_] _ _
      refine zS Wk _ rfl (g:=g2) (of:=o2+k*32) (fun j v hv=>hkw.cell (Gz.o j v hv) Wz) Gn.o d6 ?_
      exact⟨rfl,_,rfl,rfl,Wd⟩
    ·intro x w7 hkw b7 hd hwin
     have d0:x 0=_:=hd 0 Wo
     have d2:x 2=_:=hd 2 Wo
     have d7:x 7=_:=hd 7 Wo
     have Ja:=qI hkw
     clear hd hwin hkw
     change wpList _ _ _ [_] _ _
     go_wp2_with (go_at_call 70;refine (CA.o _ Ja.o).mono ?_;rintro e w8 ⟨rfl,h8⟩;have H8:=qI h8;clear h8)
     case roundEnd=>exact⟨⟨k+1,by go_num,by have:=Gs.o;omega,H8.o⟩,by have:=Gs.o;simp [intOf];omega⟩
   ·rw [if_neg Wo] at Gi
    go_upto_region 12 with (go_at_call 148;refine (CD.o _).mh ?_;rintro e w5 rfl Gc)
    have Ga:=qI (Gt.o.then Gc.o)
    have Gy:=qI (Gp.o.kept0 Gc.o)
    have Gz:Hid (w5.rangeAt g2 (o2+k*32) (y1.map bv)):=qI (fun j v hv=>Ga.o.cell (Gh.o j v hv) Wz)
    have f1:=za (o:=1) ((Gg.o.then Ga.o).heap Gq.o Wz) rfl
    have CU:Hid (∀ w3,zb [] w5 w3→_):=qI (fun w3 h=>CU'.o w3 ((Gg.o.then Ga.o).then h))
    have CA:Hid (∀ w3,zb [] w5 w3→Calls Tryz.prog 70 #[.pointer (some ⟨p,0,none⟩),.agg (y1.map bv).toArray,.agg (u1.map bv).toArray] w3 fun e w'=>e = .returned (.tuple #[])∧qu ws p w' ((List.range (k+1)).map (bA m s)).flatten):=qI (fun w3 h=>by
     have h1:=vN (Gf.o.kept0 (Ga.o.then h)) Gn.o Gw.o (by have:=Ji.o;have:=Gr.o;omega)
     rw [Jh.o,Gi.o,← List.append_assoc]
     exact h1)
    refine zK (n:=58) 8 [fI (.pointer (some ⟨p,0,none⟩)),
     fI (.pointer (some ⟨w.heap.size,1,none⟩)),
     fI (.slice (some ⟨g2,o2,none⟩) n c2),
     fI (.int .i64 k),
     fI (.pointer (some ⟨g2,o2+k*32,none⟩)),
     fI (.agg (y1.map bv).toArray),
     fI (.agg (x1.map bv).toArray),
     fI (.agg (u1.map bv).toArray)] Wr rfl Wr (fun x=>yH) ?_ ?_
    ·refine⟨?_,?_,?_,?_,?_,?_,?_,?_,trivial⟩ <;> intro x w2 hkw b hd
     ·exact ze
     ·exact ze
     ·have d1:x 1=_:=hd 1 Wr
      have y0:=hkw.cell f1 Wz
      exact ze
     ·exact ze
     ·have d2:x 2=_:=hd 2 Wr
      have d3:x 3=_:=hd 3 Wr
      have hkN:=Jf.o
      exact ze
     ·have d4:x 4=_:=hd 4 Wr
      change wpList _ _ _ [_] _ _
      refine zS Wk _ rfl (g:=g2) (of:=o2+k*32) (fun j v hv=>hkw.cell (Gz.o j v hv) Wz) Gn.o d4 ?_
      exact⟨rfl,_,rfl,rfl,Wd⟩
     ·change wpList _ _ _ [_] _ _
      refine zP Wk (.tmp 9) Wk (Gy.o.kept0 hkw) Gj.o Wk ?_
      exact⟨rfl,_,rfl,rfl,Wd⟩
     ·have d6:x 6=_:=hd 6 Wr
      have CX:=CU.o w2 hkw
      go_wp2_with (go_at_call 71;refine CX.mh ?_;rintro e w5 rfl Gc)
      exact⟨rfl,Gc.o⟩
    ·intro x w7 hkw b7 hd hwin
     have d0:x 0=_:=hd 0 Wo
     have d5:x 5=_:=hd 5 Wo
     have d7:x 7=_:=hd 7 Wo
     have Ja:=qI hkw
     clear hd hwin hkw
     change wpList _ _ _ [_] _ _
     go_wp2_with (go_at_call 70;refine (CA.o _ Ja.o).mono ?_;rintro e w8 ⟨rfl,h8⟩;have H8:=qI h8;clear h8)
     case roundEnd=>exact⟨⟨k+1,by go_num,by have:=Gs.o;omega,H8.o⟩,by have:=Gs.o;simp [intOf];omega⟩
  ·obtain rfl:k=n:=by omega
   have CD:Hid (Cz wr 73 #[.pointer (some ⟨p,0,none⟩)] (.agg ((xG m s).map bv).toArray)):=qI (by
    rw [Jk.o]
    exact Zt Gf.o (by have:=Jc.o k (Nat.le_refl _);have:=Gr.o;omega) (Gu.o.kept0 (Gb.o.then Gf.o.kept)))
   have Jb:Hid ((xG m s).length=32):=qI (kK _ _)
   generalize hse:xG m s=sl at CD Jb
   have Jo:=qI hse
   clear hse
   have Jp:=qI (Jj.o.kept0 (Gb.o.then Gf.o.kept))
   go_wp2_with first
    | (go_at_call 73;refine CD.o.mono ?_;rintro e w4 ⟨rfl,hk4⟩;have Gt:=qI hk4;have Jq:=qI (Jp.o.kept0 hk4);clear hk4)
    | (refine zq Wk (.tmp 4) (.tmp 57) Wk Jq.o (zJ _ _) Jb.o Wk Wk ?_;intro w5 h5 hk5;have H5:=qI h5;have Gc:=qI hk5;clear h5 hk5)
   have hres:=H5.o.var Jb.o
   refine bodyPost_ret (v:=.tuple #[.agg (sl.map bv).toArray,.int .i64 0]) (by simp only [results,results137];simp [hres,Sem.run_bind,asAddr,Act.put]) rfl ⟨by rw [Jo.o],?_⟩
   exact ((Ge.o.then (Gb.o.then Gf.o.kept)).then Gt.o).trans Gc.o (by intro i hi;simp at hi;subst hi;exact .inr Ws)
end Go.Proofs.YtibnfbglanpoiaaGreatDoor

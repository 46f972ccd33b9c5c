/- Parts of one proof, merged: XGL. -/
import Derived.Test.YtibnfbglanpoiaaGreatDoorQeU
import Derived.Test.YtibnfbglanpoiaaGreatDoorQeN
import Derived.Test.YtibnfbglanpoiaaGreatDoorQeI
set_option linter.all false
set_option maxHeartbeats 12800000
set_option maxRecDepth 100000
namespace Go.Proofs.YtibnfbglanpoiaaGreatDoor
open Go.Proofs.Tryz
open Go.RowKit
theorem or_bytes (y0 y1 y2 y3:Int) (h0:0≤y0∧y0<256) (h1:0≤y1∧y1<256) (h2:0≤y2∧y2<256) (h3:0≤y3∧y3<256):(bits .or .u32 (bits .or .u32 (bits .or .u32 (y0*16777216%4294967296) (y1*65536%4294967296)) (y2*256%4294967296)) y3)=y0*16777216+y1*65536+y2*256+y3:=by
 have hk:∀ n:Int,0≤n→n<2 ^ 32→IntKind.u32.wrap n=n:=fun n a b=>by rw [IntKind.wrap_u32];omega
 rw [Int.emod_eq_of_lt Ws Ws,Int.emod_eq_of_lt Ws Ws,Int.emod_eq_of_lt Ws Ws]
 rw [bits_join .u32 32 Wo hk 24 (y0*16777216) (y1*65536) Ws Ws Ws Ws Ws Ws]
 rw [bits_join .u32 32 Wo hk 16 (y0*16777216+y1*65536) (y2*256) Ws Ws Ws Ws Ws Ws]
 rw [bits_join .u32 32 Wo hk 8 (y0*16777216+y1*65536+y2*256) y3 Ws Ws Ws Ws Ws Ws]
theorem Y5 (w:Int) (c:UInt8) (h0:0≤w) (h1:w<16777216):bits .or .u32 (w*256%4294967296) (c.toNat:Int)=w*256+c.toNat:=by
 have hk:∀ n:Int,0≤n→n<2 ^ 32→IntKind.u32.wrap n=n:=fun n a b=>by rw [IntKind.wrap_u32];omega
 have hc:=c.toNat_lt
 rw [Int.emod_eq_of_lt Ws Ws]
 exact bits_join .u32 32 Wo hk 8 _ _ Ws Ws Ws Ws Ws Ws
theorem acc_four (a b c d:UInt8):accW [a,b,c,d]=(a.toNat:Int)*16777216+(b.toNat:Int)*65536+(c.toNat:Int)*256+d.toNat:=by
 have ha:=a.toNat_lt
 have hb:=b.toNat_lt
 have hc:=c.toNat_lt
 unfold accW
 simp only [List.foldl_cons,List.foldl_nil]
 rw [Y5 0 a Ws Ws,Y5 _ b Ws Ws,Y5 _ c Ws Ws,Y5 _ d Ws Ws]
 omega
theorem take_fourB (l:List UInt8) (m:Nat) (h:m+3<l.length):(l.drop m).take 4=[l[m],l[m+1],l[m+2],l[m+3]]:=by
 rw [List.drop_eq_getElem_cons Ws,List.drop_eq_getElem_cons Ws,List.drop_eq_getElem_cons Ws,List.drop_eq_getElem_cons Ws]
 rfl
theorem sum_four (c a d b:Int):(c+a+d+b)%4294967296=(((c+a)%4294967296+d)%4294967296+b)%4294967296:=Ws
def W8 (w:World) (g:Nat) (s:S8):Prop:=w.heap[g]? = some (.cells (s.list.map wv).toArray 135 (0,0))
theorem W8.kept {X:List Nat}{w w':World}{g:Nat}{s:S8}(h:W8 w g s) (k:zb X w w') (hg:g ∉ X):W8 w' g s:=k.heap h hg
theorem W8.range {w:World}{g:Nat}{s:S8}(h:W8 w g s):w.rangeAt g 0 (s.list.map wv):=fun j v hv=>by
 rw [Nat.zero_add];exact za h (by simpa using hv)
theorem info8:(Tryz.prog.info? 135).map (·.size)=some 8:=Wr
theorem bM {ops:Array Oper}{rest:List Oper}{op:Oper}{a:Act}{w:World}{Q:Exit→Act→World→Prop}(hgd:op.guard=none) (x:Operand) (ho:op.op = .load 135 x) {g:Nat}{s:S8}(h0:W8 w g s)
  (hx:a.eval x = .pointer (some ⟨g,0,none⟩)) (h:wpList Tryz.prog ops Q rest (a.put op.dst (.agg (s.list.map wv).toArray)) w):wpList Tryz.prog ops Q (op::rest) a w:=
 wpList_load_mid hgd 135 x ho g 0 hx (s.list.map wv) _ h0.range underlying135 rfl info8 h
theorem kj {ops:Array Oper}{rest:List Oper}{op:Oper}{a:Act}{w:World}{Q:Exit→Act→World→Prop}(hgd:op.guard=none) (x y:Operand) (ho:op.op = .store 135 x y) {g:Nat}{s r:S8}(h0:W8 w g s)
  (hx:a.eval x = .pointer (some ⟨g,0,none⟩)) (hy:a.eval y = .agg (r.list.map wv).toArray) (h:∀ w',W8 w' g r→zb [g] w w'→wpList Tryz.prog ops Q rest (a.put op.dst undef) w'):wpList Tryz.prog ops Q (op::rest) a w:=by
 obtain⟨L,hL⟩:∃ L,L=r.list.map wv:=⟨_,rfl⟩
 have hl8:L.length=8:=by rw [hL];rfl
 have hone:∀ v,v∈L→v.oneCell'=true:=fun v hv=>by rw [hL] at hv;obtain⟨x,-,rfl⟩:=List.mem_map.1 hv;rfl
 rw [← hL] at hy
 refine wpList_store_mid hgd 135 x y ho g 0 L.toArray hx hy (fun j hj=>?_) (by rw [List.size_toArray,hl8];exact info8) (all_oneCell_toArray hone) (h _ ?_ (yo _ _ _ _))
 ·have hj8:j<8:=by rw [List.size_toArray,hl8] at hj;exact hj
  rw [Nat.zero_add]
  have hj':j<(s.list.map wv).length:=hj8
  exact⟨by rw [za (v:=(s.list.map wv)[j]) h0 (by rw [List.getElem?_toArray];exact List.getElem?_eq_getElem hj')];rfl,zh h0⟩
 ·rw [List.toList_toArray]
  obtain⟨cur,h1,h2,h3⟩:=xM g L 0 w _ h0
  have hz:cur.size=8:=h2.trans rfl
  have e:cur=L.toArray:=by
   apply Array.ext'
   rw [List.toList_toArray]
   apply List.ext_getElem?
   intro j
   rw [Array.getElem?_toList]
   by_cases hj:j<8
   ·rw [h3 j (by rw [← h2,hz];exact hj),if_pos ⟨Nat.zero_le _,by rw [Nat.zero_add,hl8];exact hj⟩,Nat.sub_zero]
   ·rw [Array.getElem?_eq_none Ws,List.getElem?_eq_none (by simp only [List.toList_toArray];omega)]
  unfold W8
  rw [h1,e,hL]
theorem W8.var {w:World}{g:Nat}{s:S8}(h:W8 w g s):(loadVar 135 ⟨g,0,none⟩).run Tryz.prog w = .ok (.agg (s.list.map wv).toArray) w:=run_loadVar_mid (P:=Tryz.prog) w g 0 135 (s.list.map wv) _ h.range underlying135 rfl info8
theorem sum_five (h x y k v:Int):((((h+x)%4294967296+y)%4294967296+k)%4294967296+v)%4294967296=((h+x+y+k)%4294967296+v)%4294967296:=Ws
def JQ (s r:S8) (k:Nat):S8:=⟨if 0<k then (r.a+s.a)%4294967296 else r.a,if 1<k then (r.b+s.b)%4294967296 else r.b,if 2<k then (r.c+s.c)%4294967296 else r.c,if 3<k then (r.d+s.d)%4294967296 else r.d,if 4<k then (r.e+s.e)%4294967296 else r.e,if 5<k then (r.f+s.f)%4294967296 else r.f,if 6<k then (r.g+s.g)%4294967296 else r.g,if 7<k then (r.h+s.h)%4294967296 else r.h⟩
theorem ZJ {P:Nat→Prop}(h0:P 0) (h1:P 1) (h2:P 2) (h3:P 3) (h4:P 4) (h5:P 5) (h6:P 6) (h7:P 7):∀ k,k<8→P k
 | 0,_=>h0 | 1,_=>h1 | 2,_=>h2 | 3,_=>h3 | 4,_=>h4 | 5,_=>h5 | 6,_=>h6 | 7,_=>h7
 | _+8,h=>by omega
theorem w8_at {w:World}{g:Nat}{s:S8}(h:W8 w g s) {k:Nat}(hk:k<8):w.cell? ⟨g,k,none⟩=some (.int .u32 (s.get k)):=by
 refine ZJ (P:=fun k=>w.cell? ⟨g,k,none⟩=some (.int .u32 (s.get k))) ?_ ?_ ?_ ?_ ?_ ?_ ?_ ?_ k hk
 all_goals exact za h rfl
theorem mix_at {w:World}{g:Nat}{s r:S8}{k:Nat}(h:W8 w g (JQ s r k)) (hk:k<8):w.cell? ⟨g,k,none⟩=some (.int .u32 (r.get k)):=by
 have h1:=w8_at h hk
 have h2:∀ k,k<8→(JQ s r k).get k=r.get k:=ZJ rfl rfl rfl rfl rfl rfl rfl rfl
 rw [h1,h2 k hk]
theorem mix_set {w:World}{g:Nat}{s r:S8}:∀ {k:Nat},W8 w g (JQ s r k)→k<8→W8 (w.setCell ⟨g,k,none⟩ (.int .u32 ((r.get k+s.get k)%4294967296))) g (JQ s r (k+1)):=by
 intro k h hk
 refine ZJ (P:=fun k=>W8 w g (JQ s r k)→W8 (w.setCell ⟨g,k,none⟩ (.int .u32 ((r.get k+s.get k)%4294967296))) g (JQ s r (k+1))) ?_ ?_ ?_ ?_ ?_ ?_ ?_ ?_ k hk h
 all_goals exact fun h=>zg h rfl
theorem block_mix (s:S8) (l:List UInt8):xY s l=JQ s (runS (yE l 64) s 64) 8:=by
 unfold xY
 generalize runS (yE l 64) s 64=r
 show S8.mk _ _ _ _ _ _ _ _=S8.mk _ _ _ _ _ _ _ _
 simp only [S8.mk.injEq]
 exact⟨congrArg (· % 4294967296) (Int.add_comm _ _),congrArg (· % 4294967296) (Int.add_comm _ _),congrArg (· % 4294967296) (Int.add_comm _ _),congrArg (· % 4294967296) (Int.add_comm _ _),congrArg (· % 4294967296) (Int.add_comm _ _),congrArg (· % 4294967296) (Int.add_comm _ _),congrArg (· % 4294967296) (Int.add_comm _ _),congrArg (· % 4294967296) (Int.add_comm _ _)⟩
theorem refBlock_any (w:World) (s:S8) (a:Option Addr) (c:Nat) (l:List UInt8) (hl:l.length=64) (hb:zp w (.slice a 64 c) l) :
  CL w 88 #[.agg (s.list.map wv).toArray,.slice a 64 c] (.agg ((xY s l).list.map wv).toArray):=by
 obtain⟨z8,Jv⟩:∃ z8,Hid (z8=S8.mk 0 0 0 0 0 0 0 0):=⟨_,qI rfl⟩
 obtain⟨W0,Gl⟩:∃ W0,Hid (W0=((w.alloc (.cells (s.list.map wv).toArray 135)).alloc (.cells (z8.list.map wv).toArray 135)).alloc (.cells (yg [] 64).toArray 169)):=⟨_,qI rfl⟩
 have Jp:Hid (zb [] w W0):=qI (kA3 Gl.o)
 have Jw:Hid (W8 W0 w.heap.size s):=qI (by rw [Gl.o];exact (((zb.refl [] _).alloc _).alloc _).heap (zd rfl) Wz)
 have Jx:Hid (W8 W0 (w.heap.size+1) z8):=qI (by rw [Gl.o];exact ((zb.refl [] _).alloc _).heap (zd Wz) Wz)
 have Jy:Hid (W0.heap.size=w.heap.size+3):=qI (by rw [Gl.o];simp)
 obtain⟨wb,Gi⟩:∃ wb,Hid (wb=w.heap.size+2):=⟨_,qI rfl⟩
 have Gw:Hid (wb=w.heap.size+1+1):=qI (by rw [Gi.o])
 have Gx:Hid (yW W0 wb [] 64):=qI (by rw [Gl.o,Gi.o];exact zd Wz)
 obtain⟨g,o,rfl,-⟩:∃ g o,a=some ⟨g,o,none⟩∧w.cell? ⟨g,o+0,none⟩=some (.int .u8 (l[0]'(Ws)).toNat):=zp.at (l:=l) (c:=c) (by rw [hl];exact hb) Ws
 have HB:=qI (show zp W0 (.slice (some ⟨g,o,none⟩) l.length c) l by rw [hl];exact Slc.kept0 hb Jp.o)
 have Jz:Hid (g<w.heap.size):=qI (Slc.lt hb rfl)
 have Ma:=qI hl
 clear hb hl
 go_enter func88,ntmps88
 go_upto_region 4 with fail
 change Code.wp _ _ _ _ (((w.alloc (.cells (s.list.map wv).toArray 135)).alloc (.cells ((S8.mk 0 0 0 0 0 0 0 0).list.map wv).toArray 135)).alloc (.cells (yg [] 64).toArray 169))
 rw [← Jv.o,← Gl.o,← Gw.o]
 go_wp2_with fail
 go_loopw [6,7,8] (fun i _ _ wr=>∃ t:Nat,i = .int .i64 t∧t≤64∧zb [wb] W0 wr∧yW wr wb (yE l t) (64-t)) (fun i _ _ _=>64-(intOf i).toNat)
 case atStart=>exact⟨0,rfl,Wo,Wd,Gx.o⟩
 case round=>
  obtain⟨t,rfl,ht,hkw,hwd⟩:=hrel
  have Gm:=qI hkw
  have Gy:=qI hwd
  have Mb:Hid (zb [] w wr):=qI (Jp.o.trans hkw (by intro i hi;simp at hi;subst hi;exact .inr (by have:=Gi.o;omega)))
  clear hkw hwd
  by_cases hlt:t<64
  rotate_left
  ·obtain rfl:t=64:=by omega
   have Jq:=qI (W8.kept Jw.o Gm.o (by have:=Gi.o;simp;omega))
   have Mc:=qI (W8.kept Jx.o Gm.o (by have:=Gi.o;simp;omega))
   have Gz:Hid (W0.heap.size≤wr.heap.size):=qI Gm.o.size
   have hge:¬ (64:Nat)<64:=hlt
   obtain⟨WS,Ja⟩:∃ WS,Hid (WS=yE l 64):=⟨_,qI rfl⟩
   have Md:Hid (WS.length=64):=qI (by rw [Ja.o,yf])
   have Jb:Hid (yW wr wb WS 0):=qI (by rw [Ja.o];exact Gy.o)
   clear hlt ht
   go_upto_region 11 with fail
   obtain⟨sb,Gq⟩:∃ sb,Hid (sb=wr.heap.size):=⟨_,qI rfl⟩
   go_upto_region 12 with first
    | (refine bM Wk (.tmp 2) Wk Jq.o Wk ?_)
    | (refine kj Wk (.tmp 9) (.tmp 96) Wk (g:=wr.heap.size) (s:=S8.mk 0 0 0 0 0 0 0 0) (r:=s) (zd rfl) Wk Wk ?_;intro w2 h2 hk2;rw [← Gq.o] at h2 hk2;have Me:=qI h2;have Gg:Hid (zb [] wr w2):=qI (((zb.refl [] wr).alloc _).trans hk2 (by intro i hi;simp at hi;subst hi;rw [Gq.o];exact .inr (Nat.le_refl _)));clear h2 hk2;simp only [Act.put])
   rw [← Gq.o]
   have Jc:Hid (zb [] w w2):=qI (Mb.o.then Gg.o)
   have Jd:=qI (Jb.o.kept Gg.o Wz)
   have Gr:Hid (w.heap.size+3≤sb∧wb<sb):=qI (by have:=Gq.o;have:=Gz.o;have:=Jy.o;have:=Gi.o;omega)
   go_wp2_with fail
   go_loopw [10,11,12] (fun i _ _ wq=>∃ t:Nat,i = .int .i64 t∧t≤64∧W8 wq sb (runS WS s t)∧zb [sb] w2 wq) (fun i _ _ _=>64-(intOf i).toNat)
   case atStart=>exact⟨0,rfl,Wo,Me.o,Wd⟩
   case round=>
    obtain⟨t,rfl,ht,hst,hkw2⟩:=hrel
    have Je:=qI hkw2
    have Gd:=qI hst
    clear hkw2 hst
    by_cases hlt:t<64
    rotate_left
    ·obtain rfl:t=64:=by omega
     have hge2:¬ (64:Nat)<64:=hlt
     obtain⟨r,Gp⟩:∃ r,Hid (r=runS WS s 64):=⟨_,qI rfl⟩
     rw [← Gp.o] at Gd
     obtain⟨WR,Yb⟩:∃ WR,Hid (WR=wr):=⟨_,qI rfl⟩
     clear hlt ht
     go_wp2_with fail
     go_loopw [13] (fun i wq=>∃ k:Nat,i = .int .i64 k∧k≤8∧W8 wq sb (JQ s r k)∧zb [sb] w2 wq) (fun i _=>8-(intOf i).toNat)
     case atStart=>exact⟨0,rfl,Wo,Gd.o,Je.o⟩
     case round=>
      obtain⟨k,rfl,hk,hmx,hkv⟩:=hrel
      have Gs:=qI hkv
      have Jf:=qI hmx
      clear hkv hmx
      have Mf:=qI (W8.kept (W8.kept Jq.o Gg.o Wz) Gs.o (by have:=Gr.o;simp;omega))
      by_cases hlt:k<8
      ·have hltI:(k:Int)<8:=by omega
       have Jg:Hid ((k:Int)<8):=qI hltI
       have Mg:=qI (mix_at Jf.o hlt)
       have Mh:=qI (w8_at Mf.o hlt)
       have Gb:=qI hlt
       clear hlt
       go_upto_region 21 with fail
       refine zK (n:=198) 8 [fI (.int .i64 k),
        fI (.int .i64 k),
        fI (.pointer (some ⟨sb,k,none⟩)),
        fI (.int .u32 (r.get k)),
        fI (.int .i64 k),
        fI (.pointer (some ⟨w.heap.size,k,none⟩)),
        fI (.int .u32 (s.get k)),
        fI (.int .u32 ((r.get k+s.get k)%4294967296))] Wr rfl Wr (fun x=>yH) ?_ ?_
       ·refine⟨?_,?_,?_,?_,?_,?_,?_,?_,trivial⟩ <;> intro x w2 hkw b hd
        ·exact ze
        ·exact ze
        ·have d1:x 1=_:=hd 1 Wr
         have hkI:=Jg.o
         exact ze
        ·have d2:x 2=_:=hd 2 Wr
         have y0:=hkw.cell Mg.o Wz
         exact ze
        ·exact ze
        ·have d4:x 4=_:=hd 4 Wr
         have hkI:=Jg.o
         exact ze
        ·have d5:x 5=_:=hd 5 Wr
         have y0:=hkw.cell Mh.o Wz
         exact ze
        ·have d3:x 3=_:=hd 3 Wr
         have d6:x 6=_:=hd 6 Wr
         exact ze
       ·intro x w7 hkw b7 hd hwin
        have d0:x 0=_:=hd 0 Wo
        have d7:x 7=_:=hd 7 Wo
        have Ge:=qI hkw
        have Jh:=qI (W8.kept Jf.o hkw Wz)
        clear hd hwin hkw
        have q1:=mix_at Jh.o Gb.o
        have z1:w7.frozen? ⟨sb,k,none⟩=false:=zh Jh.o
        have hkI:=Jg.o
        change wpList _ _ _ [_,_] _ _
        go_wp2_with fail
        case roundEnd=>
         exact⟨⟨k+1,by go_num,by have:=Gb.o;omega,mix_set Jh.o Gb.o,(Gs.o.then Ge.o).trans' ((zb.refl [sb] w7).setCell (.inl Wz) _)⟩,by have:=Gb.o;simp [intOf];omega⟩
      ·obtain rfl:k=8:=by omega
       have hge3:¬ (8:Nat)<8:=hlt
       have Ji:=qI (W8.kept (W8.kept Mc.o Gg.o Wz) Gs.o (by have:=Gr.o;simp;omega))
       have Mi:Hid (xY s l=JQ s r 8):=qI (by rw [Gp.o,Ja.o];exact block_mix s l)
       clear hlt hk
       go_wp2_with first
        | (refine bM Wk (.tmp 9) Wk Jf.o Wk ?_)
        | (refine kj Wk (.tmp 4) (.tmp 197) Wk (g:=w.heap.size+1) (s:=z8) (r:=JQ s r 8) Ji.o Wk Wk ?_;intro w9 h9 hk9;have Mj:=qI h9;have Gt:=qI hk9;clear h9 hk9;simp only [Act.put])
       have hv:=W8.var Mj.o
       refine bodyPost_ret (v:=.agg ((JQ s r 8).list.map wv).toArray) (by simp [results,results88,hv,Sem.run_bind,asAddr]) rfl ?_
       rw [Mi.o]
       exact⟨rfl,((Jc.o).trans Gs.o (by have:=Gr.o;intro i hi;simp at hi;subst hi;exact .inr Ws)).trans Gt.o (by intro i hi;simp at hi;subst hi;exact .inr Ws)⟩
    have hltI:(t:Int)<64:=Ws
    have Gn:Hid ((t:Int)<64):=qI hltI
    obtain⟨r,Gp⟩:∃ r,Hid (r=runS WS s t):=⟨_,qI rfl⟩
    obtain⟨K,HK⟩:∃ K,Hid (K=KS.getD t 0):=⟨_,qI rfl⟩
    obtain⟨Wt,HWt⟩:∃ Wt,Hid (Wt=WS.getD t 0):=⟨_,qI rfl⟩
    have Gu:Hid (runS WS s (t+1)=roundS r K Wt):=qI (by rw [Gp.o,HK.o,HWt.o];rfl)
    rw [← Gp.o] at Gd
    have CK:Hid (∀ w1,Calls Tryz.prog 121 #[.int .i64 t] w1 fun e w'=>e = .returned (.int .u32 K)∧zb [] w1 w'):=qI (fun w1=>by rw [HK.o];exact round_any t hlt w1)
    have Mk:Hid (wr.cell? ⟨wb,t,none⟩=some (.int .u32 Wt)):=qI (by
     rw [HWt.o]
     exact Je.o.cell (Jd.o.cell (by rw [Md.o];exact hlt)) (by have:=Gr.o;simp;omega))
    have Gf:Hid (wr.heap[sb]? = some (.cells (r.list.map wv).toArray 135 (0,0))):=Gd
    have Gb:=qI hlt
    clear hlt ht
    go_upto_region 15 with fail
    refine zK (n:=198) 34 [fI (.pointer (some ⟨sb,7,none⟩)),
     fI (.int .u32 r.h),
     fI (.pointer (some ⟨sb,4,none⟩)),
     fI (.int .u32 r.e),
     fI (.int .u32 (yy 67108864 64 r.e)),
     fI (.pointer (some ⟨sb,4,none⟩)),
     fI (.int .u32 r.e),
     fI (.int .u32 (yy 2097152 2048 r.e)),
     fI (.int .u32 (bits .xor .u32 (yy 67108864 64 r.e) (yy 2097152 2048 r.e))),
     fI (.pointer (some ⟨sb,4,none⟩)),
     fI (.int .u32 r.e),
     fI (.int .u32 (yy 128 33554432 r.e)),
     fI (.int .u32 (bits .xor .u32 (bits .xor .u32 (yy 67108864 64 r.e) (yy 2097152 2048 r.e)) (yy 128 33554432 r.e))),
     fI (.int .u32 ((r.h+(bits .xor .u32 (bits .xor .u32 (yy 67108864 64 r.e) (yy 2097152 2048 r.e)) (yy 128 33554432 r.e)))%4294967296)),
     fI (.pointer (some ⟨sb,4,none⟩)),
     fI (.int .u32 r.e),
     fI (.pointer (some ⟨sb,5,none⟩)),
     fI (.int .u32 r.f),
     fI (.int .u32 (bits .and .u32 r.e r.f)),
     fI (.pointer (some ⟨sb,4,none⟩)),
     fI (.int .u32 r.e),
     fI (.int .u32 (bits .xor .u32 (if IntKind.u32.signed=true then -1 else IntKind.u32.max) r.e)),
     fI (.pointer (some ⟨sb,6,none⟩)),
     fI (.int .u32 r.g),
     fI (.int .u32 (bits .and .u32 (bits .xor .u32 (if IntKind.u32.signed=true then -1 else IntKind.u32.max) r.e) r.g)),
     fI (.int .u32 (bits .xor .u32 (bits .and .u32 r.e r.f) (bits .and .u32 (bits .xor .u32 (if IntKind.u32.signed=true then -1 else IntKind.u32.max) r.e) r.g))),
     fI (.int .u32 ((((r.h+(bits .xor .u32 (bits .xor .u32 (yy 67108864 64 r.e) (yy 2097152 2048 r.e)) (yy 128 33554432 r.e)))%4294967296)+(bits .xor .u32 (bits .and .u32 r.e r.f) (bits .and .u32 (bits .xor .u32 (if IntKind.u32.signed=true then -1 else IntKind.u32.max) r.e) r.g)))%4294967296)),
     fI (.int .i64 t),
     fI (.int .u32 K),
     fI (.int .u32 ((((((r.h+(bits .xor .u32 (bits .xor .u32 (yy 67108864 64 r.e) (yy 2097152 2048 r.e)) (yy 128 33554432 r.e)))%4294967296)+(bits .xor .u32 (bits .and .u32 r.e r.f) (bits .and .u32 (bits .xor .u32 (if IntKind.u32.signed=true then -1 else IntKind.u32.max) r.e) r.g)))%4294967296)+K)%4294967296)),
     fI (.int .i64 t),
     fI (.pointer (some ⟨wb,t,none⟩)),
     fI (.int .u32 Wt),
     fI (.int .u32 ((((((((r.h+(bits .xor .u32 (bits .xor .u32 (yy 67108864 64 r.e) (yy 2097152 2048 r.e)) (yy 128 33554432 r.e)))%4294967296)+(bits .xor .u32 (bits .and .u32 r.e r.f) (bits .and .u32 (bits .xor .u32 (if IntKind.u32.signed=true then -1 else IntKind.u32.max) r.e) r.g)))%4294967296)+K)%4294967296)+Wt)%4294967296))] Wr rfl Wr (fun x=>yH) ?_ ?_
    ·refine⟨?_,?_,?_,?_,?_,?_,?_,?_,?_,?_,?_,?_,?_,?_,?_,?_,?_,?_,?_,?_,?_,?_,?_,?_,?_,?_,?_,?_,?_,?_,?_,?_,?_,?_,trivial⟩ <;> intro x w2 hkw b hd
     ·exact ze
     ·have d0:x 0=_:=hd 0 Wr
      have y0:=hkw.cell (za (o:=7) (v:=.int .u32 r.h) Gf.o rfl) Wz
      exact ze
     ·exact ze
     ·have d2:x 2=_:=hd 2 Wr
      have y0:=hkw.cell (za (o:=4) (v:=.int .u32 r.e) Gf.o rfl) Wz
      exact ze
     ·have d3:x 3=_:=hd 3 Wr
      have CX:=kg r.e 6 67108864 64 (by unfold qi;decide) w2
      go_wp2_with (go_at_call 120;refine CX.mono ?_;rintro e w5 ⟨rfl,rfl⟩)
      exact⟨rfl,Wd⟩
     ·exact ze
     ·have d5:x 5=_:=hd 5 Wr
      have y0:=hkw.cell (za (o:=4) (v:=.int .u32 r.e) Gf.o rfl) Wz
      exact ze
     ·have d6:x 6=_:=hd 6 Wr
      have CX:=kg r.e 11 2097152 2048 (by unfold qi;decide) w2
      go_wp2_with (go_at_call 120;refine CX.mono ?_;rintro e w5 ⟨rfl,rfl⟩)
      exact⟨rfl,Wd⟩
     ·have d4:x 4=_:=hd 4 Wr
      have d7:x 7=_:=hd 7 Wr
      exact ze
     ·exact ze
     ·have d9:x 9=_:=hd 9 Wr
      have y0:=hkw.cell (za (o:=4) (v:=.int .u32 r.e) Gf.o rfl) Wz
      exact ze
     ·have d10:x 10=_:=hd 10 Wr
      have CX:=kg r.e 25 128 33554432 (by unfold qi;decide) w2
      go_wp2_with (go_at_call 120;refine CX.mono ?_;rintro e w5 ⟨rfl,rfl⟩)
      exact⟨rfl,Wd⟩
     ·have d8:x 8=_:=hd 8 Wr
      have d11:x 11=_:=hd 11 Wr
      exact ze
     ·have d1:x 1=_:=hd 1 Wr
      have d12:x 12=_:=hd 12 Wr
      exact ze
     ·exact ze
     ·have d14:x 14=_:=hd 14 Wr
      have y0:=hkw.cell (za (o:=4) (v:=.int .u32 r.e) Gf.o rfl) Wz
      exact ze
     ·exact ze
     ·have d16:x 16=_:=hd 16 Wr
      have y0:=hkw.cell (za (o:=5) (v:=.int .u32 r.f) Gf.o rfl) Wz
      exact ze
     ·have d15:x 15=_:=hd 15 Wr
      have d17:x 17=_:=hd 17 Wr
      exact ze
     ·exact ze
     ·have d19:x 19=_:=hd 19 Wr
      have y0:=hkw.cell (za (o:=4) (v:=.int .u32 r.e) Gf.o rfl) Wz
      exact ze
     ·have d20:x 20=_:=hd 20 Wr
      exact ze
     ·exact ze
     ·have d22:x 22=_:=hd 22 Wr
      have y0:=hkw.cell (za (o:=6) (v:=.int .u32 r.g) Gf.o rfl) Wz
      exact ze
     ·have d21:x 21=_:=hd 21 Wr
      have d23:x 23=_:=hd 23 Wr
      exact ze
     ·have d18:x 18=_:=hd 18 Wr
      have d24:x 24=_:=hd 24 Wr
      exact ze
     ·have d13:x 13=_:=hd 13 Wr
      have d25:x 25=_:=hd 25 Wr
      exact ze
     ·exact ze
     ·have d27:x 27=_:=hd 27 Wr
      have CX:=CK.o w2
      go_wp2_with (go_at_call 121;refine CX.mh ?_;rintro e w5 rfl Ml)
      exact⟨rfl,Ml.o⟩
     ·have d26:x 26=_:=hd 26 Wr
      have d28:x 28=_:=hd 28 Wr
      exact ze
     ·exact ze
     ·have d30:x 30=_:=hd 30 Wr
      have htI:=Gn.o
      exact ze
     ·have d31:x 31=_:=hd 31 Wr
      have y0:=hkw.cell Mk.o Wz
      exact ze
     ·have d29:x 29=_:=hd 29 Wr
      have d32:x 32=_:=hd 32 Wr
      exact ze
    ·intro x w7 hkw b7 hd hwin
     have d33:x 33=_:=hd 33 Wo
     have Ge:=qI hkw
     clear hd hwin hkw
     obtain⟨T1,Jr⟩:∃ T1,Hid (T1=t1W r K Wt):=⟨_,qI rfl⟩
     have Mm:Hid (((((((((r.h+(bits .xor .u32 (bits .xor .u32 (yy 67108864 64 r.e) (yy 2097152 2048 r.e)) (yy 128 33554432 r.e)))%4294967296)+(bits .xor .u32 (bits .and .u32 r.e r.f) (bits .and .u32 (bits .xor .u32 (if IntKind.u32.signed=true then -1 else IntKind.u32.max) r.e) r.g)))%4294967296)+K)%4294967296)+Wt)%4294967296)=T1):=qI (by rw [Jr.o];unfold t1W;exact sum_five _ _ _ _ _)
     rw [Mm.o] at d33
     have Ga:Hid (w7.heap[sb]? = some (.cells (r.list.map wv).toArray 135 (0,0))):=qI (Ge.o.heap Gf.o Wz)
     change wpList _ _ _ [_] _ _
     go_upto_region 16 with fail
     refine zK (n:=198) 29 [fI (.pointer (some ⟨sb,0,none⟩)),
      fI (.int .u32 r.a),
      fI (.int .u32 (yy 1073741824 4 r.a)),
      fI (.pointer (some ⟨sb,0,none⟩)),
      fI (.int .u32 r.a),
      fI (.int .u32 (yy 524288 8192 r.a)),
      fI (.int .u32 (bits .xor .u32 (yy 1073741824 4 r.a) (yy 524288 8192 r.a))),
      fI (.pointer (some ⟨sb,0,none⟩)),
      fI (.int .u32 r.a),
      fI (.int .u32 (yy 1024 4194304 r.a)),
      fI (.int .u32 (bits .xor .u32 (bits .xor .u32 (yy 1073741824 4 r.a) (yy 524288 8192 r.a)) (yy 1024 4194304 r.a))),
      fI (.pointer (some ⟨sb,0,none⟩)),
      fI (.int .u32 r.a),
      fI (.pointer (some ⟨sb,1,none⟩)),
      fI (.int .u32 r.b),
      fI (.int .u32 (bits .and .u32 r.a r.b)),
      fI (.pointer (some ⟨sb,0,none⟩)),
      fI (.int .u32 r.a),
      fI (.pointer (some ⟨sb,2,none⟩)),
      fI (.int .u32 r.c),
      fI (.int .u32 (bits .and .u32 r.a r.c)),
      fI (.int .u32 (bits .xor .u32 (bits .and .u32 r.a r.b) (bits .and .u32 r.a r.c))),
      fI (.pointer (some ⟨sb,1,none⟩)),
      fI (.int .u32 r.b),
      fI (.pointer (some ⟨sb,2,none⟩)),
      fI (.int .u32 r.c),
      fI (.int .u32 (bits .and .u32 r.b r.c)),
      fI (.int .u32 (bits .xor .u32 (bits .xor .u32 (bits .and .u32 r.a r.b) (bits .and .u32 r.a r.c)) (bits .and .u32 r.b r.c))),
      fI (.int .u32 (((bits .xor .u32 (bits .xor .u32 (yy 1073741824 4 r.a) (yy 524288 8192 r.a)) (yy 1024 4194304 r.a))+(bits .xor .u32 (bits .xor .u32 (bits .and .u32 r.a r.b) (bits .and .u32 r.a r.c)) (bits .and .u32 r.b r.c)))%4294967296))] Wr rfl Wr (fun x=>yH) ?_ ?_
     ·refine⟨?_,?_,?_,?_,?_,?_,?_,?_,?_,?_,?_,?_,?_,?_,?_,?_,?_,?_,?_,?_,?_,?_,?_,?_,?_,?_,?_,?_,?_,trivial⟩ <;> intro x w2 hkw b hd
      ·exact ze
      ·have d0:x 0=_:=hd 0 Wr
       have y0:=hkw.cell (za (o:=0) (v:=.int .u32 r.a) Ga.o rfl) Wz
       exact ze
      ·have d1:x 1=_:=hd 1 Wr
       have CX:=kg r.a 2 1073741824 4 (by unfold qi;decide) w2
       go_wp2_with (go_at_call 120;refine CX.mono ?_;rintro e w5 ⟨rfl,rfl⟩)
       exact⟨rfl,Wd⟩
      ·exact ze
      ·have d3:x 3=_:=hd 3 Wr
       have y0:=hkw.cell (za (o:=0) (v:=.int .u32 r.a) Ga.o rfl) Wz
       exact ze
      ·have d4:x 4=_:=hd 4 Wr
       have CX:=kg r.a 13 524288 8192 (by unfold qi;decide) w2
       go_wp2_with (go_at_call 120;refine CX.mono ?_;rintro e w5 ⟨rfl,rfl⟩)
       exact⟨rfl,Wd⟩
      ·have d2:x 2=_:=hd 2 Wr
       have d5:x 5=_:=hd 5 Wr
       exact ze
      ·exact ze
      ·have d7:x 7=_:=hd 7 Wr
       have y0:=hkw.cell (za (o:=0) (v:=.int .u32 r.a) Ga.o rfl) Wz
       exact ze
      ·have d8:x 8=_:=hd 8 Wr
       have CX:=kg r.a 22 1024 4194304 (by unfold qi;decide) w2
       go_wp2_with (go_at_call 120;refine CX.mono ?_;rintro e w5 ⟨rfl,rfl⟩)
       exact⟨rfl,Wd⟩
      ·have d6:x 6=_:=hd 6 Wr
       have d9:x 9=_:=hd 9 Wr
       exact ze
      ·exact ze
      ·have d11:x 11=_:=hd 11 Wr
       have y0:=hkw.cell (za (o:=0) (v:=.int .u32 r.a) Ga.o rfl) Wz
       exact ze
      ·exact ze
      ·have d13:x 13=_:=hd 13 Wr
       have y0:=hkw.cell (za (o:=1) (v:=.int .u32 r.b) Ga.o rfl) Wz
       exact ze
      ·have d12:x 12=_:=hd 12 Wr
       have d14:x 14=_:=hd 14 Wr
       exact ze
      ·exact ze
      ·have d16:x 16=_:=hd 16 Wr
       have y0:=hkw.cell (za (o:=0) (v:=.int .u32 r.a) Ga.o rfl) Wz
       exact ze
      ·exact ze
      ·have d18:x 18=_:=hd 18 Wr
       have y0:=hkw.cell (za (o:=2) (v:=.int .u32 r.c) Ga.o rfl) Wz
       exact ze
      ·have d17:x 17=_:=hd 17 Wr
       have d19:x 19=_:=hd 19 Wr
       exact ze
      ·have d15:x 15=_:=hd 15 Wr
       have d20:x 20=_:=hd 20 Wr
       exact ze
      ·exact ze
      ·have d22:x 22=_:=hd 22 Wr
       have y0:=hkw.cell (za (o:=1) (v:=.int .u32 r.b) Ga.o rfl) Wz
       exact ze
      ·exact ze
      ·have d24:x 24=_:=hd 24 Wr
       have y0:=hkw.cell (za (o:=2) (v:=.int .u32 r.c) Ga.o rfl) Wz
       exact ze
      ·have d23:x 23=_:=hd 23 Wr
       have d25:x 25=_:=hd 25 Wr
       exact ze
      ·have d21:x 21=_:=hd 21 Wr
       have d26:x 26=_:=hd 26 Wr
       exact ze
      ·have d10:x 10=_:=hd 10 Wr
       have d27:x 27=_:=hd 27 Wr
       exact ze
     ·intro x2 w9 hkw2 b9 hd2 hwin2
      have e28:x2 28=_:=hd2 28 Wo
      have Gt:=qI hkw2
      clear hd2 hwin2 hkw2
      have Gh:Hid (W8 w9 sb r):=qI (Gt.o.heap Ga.o Wz)
      obtain⟨T2,Js⟩:∃ T2,Hid (T2=t2W r):=⟨_,qI rfl⟩
      have Mn:Hid ((((bits .xor .u32 (bits .xor .u32 (yy 1073741824 4 r.a) (yy 524288 8192 r.a)) (yy 1024 4194304 r.a))+(bits .xor .u32 (bits .xor .u32 (bits .and .u32 r.a r.b) (bits .and .u32 r.a r.c)) (bits .and .u32 r.b r.c)))%4294967296)=T2):=qI (by rw [Js.o];rfl)
      rw [Mn.o] at e28
      have Mo:Hid (roundS r K Wt=S8.mk ((T1+T2)%4294967296) r.a r.b r.c ((r.d+T1)%4294967296) r.e r.f r.g):=qI (by rw [Jr.o,Js.o];rfl)
      have y0:=za (o:=0) (v:=.int .u32 r.a) Gh.o rfl
      have y1:=za (o:=1) (v:=.int .u32 r.b) Gh.o rfl
      have y2:=za (o:=2) (v:=.int .u32 r.c) Gh.o rfl
      have y3:=za (o:=3) (v:=.int .u32 r.d) Gh.o rfl
      have y4:=za (o:=4) (v:=.int .u32 r.e) Gh.o rfl
      have y5:=za (o:=5) (v:=.int .u32 r.f) Gh.o rfl
      have y6:=za (o:=6) (v:=.int .u32 r.g) Gh.o rfl
      change wpList _ _ _ [_] _ _
      go_wp2_with (refine kj Wk (.tmp 9) (.tmp 183) Wk (g:=sb) (s:=r) (r:=S8.mk ((T1+T2)%4294967296) r.a r.b r.c ((r.d+T1)%4294967296) r.e r.f r.g) Gh.o Wk Wk ?_;intro w11 h11 hk11;have Jj:=qI h11;have Jk:=qI hk11;clear h11 hk11 y0 y1 y2 y3 y4 y5 y6;simp only [Act.put])
      case roundEnd=>
       refine⟨⟨t+1,by go_num,by have:=Gb.o;omega,?_,((Je.o.then Ge.o).then Gt.o).trans' Jk.o⟩,by have:=Gb.o;simp [intOf];omega⟩
       rw [Gu.o,Mo.o]
       exact Jj.o
  have hltI:(t:Int)<64:=Ws
  have Gb:=qI hlt
  have Jt:Hid (yW wr wb (yE l t++[0]) (63-t)):=qI (by
   have h9:=Gy.o
   unfold yW at h9 ⊢
   rw [show 64-t=(63-t)+1 by have:=Gb.o;omega,← YG] at h9
   exact h9)
  by_cases h16:t<16
  ·have h16I:(t:Int)<16:=by omega
   obtain⟨m,HM⟩:∃ m,Hid (m=4*t):=⟨_,qI rfl⟩
   have Gv:Hid (4*(t:Int)=(m:Int)):=qI (by have:=HM.o;omega)
   have Gn:Hid ((t:Int)<16):=qI h16I
   have Gj:Hid ((m:Int)<61):=qI (by have:=HM.o;omega)
   have hml:m+3<l.length:=by have:=HM.o;rw [Ma.o];omega
   obtain⟨y0,y1,y2,y3,ac,Mp,Mq,Mr,Ms,Mt,Jl,Mu,Mv,Mw,Mx⟩:∃ y0 y1 y2 y3 ac:Int,Hid (yE l (t+1)=yE l t++[ac])∧Hid (wr.cell? ⟨g,o+m,none⟩=some (.int .u8 y0))∧Hid (wr.cell? ⟨g,o+(m+1),none⟩=some (.int .u8 y1))∧Hid (wr.cell? ⟨g,o+(m+2),none⟩=some (.int .u8 y2))∧Hid (wr.cell? ⟨g,o+(m+3),none⟩=some (.int .u8 y3))∧Hid (ac=(bits .or .u32 (bits .or .u32 (bits .or .u32 (y0*16777216%4294967296) (y1*65536%4294967296)) (y2*256%4294967296)) y3))∧Hid (y0%4294967296=y0)∧Hid (y1%4294967296=y1)∧Hid (y2%4294967296=y2)∧Hid (y3%4294967296=y3):=by
    have hq:∀ k (hk:m+k<l.length),wr.cell? ⟨g,o+(m+k),none⟩=some (.int .u8 l[m+k].toNat):=fun k hk=>by
     obtain⟨g',o',e,q⟩:=zp.at (HB.o) hk
     simp only [Option.some.injEq,Addr.mk.injEq,and_true] at e
     obtain⟨rfl,rfl⟩:=e
     exact Gm.o.cell q (by have:=Jz.o;have:=Gi.o;simp;omega)
    have b0:=l[m].toNat_lt
    have b1:=l[m+1].toNat_lt
    have b2:=l[m+2].toNat_lt
    have b3:=l[m+3].toNat_lt
    refine⟨l[m].toNat,l[m+1].toNat,l[m+2].toNat,l[m+3].toNat,accW [l[m],l[m+1],l[m+2],l[m+3]],qI ?_,qI (hq 0 Ws),qI (hq 1 Ws),qI (hq 2 Ws),qI (hq 3 Ws),qI ?_,qI Ws,qI Ws,qI Ws,qI Ws⟩
    ·show yE l t++[if t<16 then _ else _]=_
     rw [if_pos h16,← HM.o,take_fourB l m hml]
    ·rw [acc_four,or_bytes _ _ _ _ Ws Ws Ws Ws]
   clear hml h16 hlt
   go_upto_region 8 with fail
   refine zK (n:=198) 34 [fI (.int .i64 t),
    fI (.slice (some ⟨g,o,none⟩) 64 c),
    fI (.int .i64 t),
    fI (.int .i64 m),
    fI (.pointer (some ⟨g,o+m,none⟩)),
    fI (.int .u8 y0),
    fI (.int .u32 y0),
    fI (.int .u32 (y0*16777216%4294967296)),
    fI (.slice (some ⟨g,o,none⟩) 64 c),
    fI (.int .i64 t),
    fI (.int .i64 m),
    fI (.int .i64 (m+1)),
    fI (.pointer (some ⟨g,o+(m+1),none⟩)),
    fI (.int .u8 y1),
    fI (.int .u32 y1),
    fI (.int .u32 (y1*65536%4294967296)),
    fI (.int .u32 (bits .or .u32 (y0*16777216%4294967296) (y1*65536%4294967296))),
    fI (.slice (some ⟨g,o,none⟩) 64 c),
    fI (.int .i64 t),
    fI (.int .i64 m),
    fI (.int .i64 (m+2)),
    fI (.pointer (some ⟨g,o+(m+2),none⟩)),
    fI (.int .u8 y2),
    fI (.int .u32 y2),
    fI (.int .u32 (y2*256%4294967296)),
    fI (.int .u32 (bits .or .u32 (bits .or .u32 (y0*16777216%4294967296) (y1*65536%4294967296)) (y2*256%4294967296))),
    fI (.slice (some ⟨g,o,none⟩) 64 c),
    fI (.int .i64 t),
    fI (.int .i64 m),
    fI (.int .i64 (m+3)),
    fI (.pointer (some ⟨g,o+(m+3),none⟩)),
    fI (.int .u8 y3),
    fI (.int .u32 y3),
    fI (.int .u32 (bits .or .u32 (bits .or .u32 (bits .or .u32 (y0*16777216%4294967296) (y1*65536%4294967296)) (y2*256%4294967296)) y3))] Wr rfl Wr (fun x=>yH) ?_ ?_
   ·refine⟨?_,?_,?_,?_,?_,?_,?_,?_,?_,?_,?_,?_,?_,?_,?_,?_,?_,?_,?_,?_,?_,?_,?_,?_,?_,?_,?_,?_,?_,?_,?_,?_,?_,?_,trivial⟩ <;> intro x w2 hkw b hd
    ·exact ze
    ·exact ze
    ·exact ze
    ·have d2:x 2=_:=hd 2 Wr
     have htI:=Gn.o
     go_wp2_with fail
     exact⟨congrArg (Value.int .i64) Gv.o,Wd⟩
    ·have d1:x 1=_:=hd 1 Wr
     have d3:x 3=_:=hd 3 Wr
     have hmI:=Gj.o
     exact ze
    ·have d4:x 4=_:=hd 4 Wr
     have q:=hkw.cell (Mq.o) Wz
     exact ze
    ·have d5:x 5=_:=hd 5 Wr
     have hy:=Mu.o
     exact ze
    ·have d6:x 6=_:=hd 6 Wr
     exact ze
    ·exact ze
    ·exact ze
    ·have d9:x 9=_:=hd 9 Wr
     have htI:=Gn.o
     go_wp2_with fail
     exact⟨congrArg (Value.int .i64) Gv.o,Wd⟩
    ·have d10:x 10=_:=hd 10 Wr
     have hmI:=Gj.o
     exact ze
    ·have d8:x 8=_:=hd 8 Wr
     have d11:x 11=_:=hd 11 Wr
     have hmI:=Gj.o
     exact ze
    ·have d12:x 12=_:=hd 12 Wr
     have q:=hkw.cell (Mr.o) Wz
     exact ze
    ·have d13:x 13=_:=hd 13 Wr
     have hy:=Mv.o
     exact ze
    ·have d14:x 14=_:=hd 14 Wr
     exact ze
    ·have d7:x 7=_:=hd 7 Wr
     have d15:x 15=_:=hd 15 Wr
     exact ze
    ·exact ze
    ·exact ze
    ·have d18:x 18=_:=hd 18 Wr
     have htI:=Gn.o
     go_wp2_with fail
     exact⟨congrArg (Value.int .i64) Gv.o,Wd⟩
    ·have d19:x 19=_:=hd 19 Wr
     have hmI:=Gj.o
     exact ze
    ·have d17:x 17=_:=hd 17 Wr
     have d20:x 20=_:=hd 20 Wr
     have hmI:=Gj.o
     exact ze
    ·have d21:x 21=_:=hd 21 Wr
     have q:=hkw.cell (Ms.o) Wz
     exact ze
    ·have d22:x 22=_:=hd 22 Wr
     have hy:=Mw.o
     exact ze
    ·have d23:x 23=_:=hd 23 Wr
     exact ze
    ·have d16:x 16=_:=hd 16 Wr
     have d24:x 24=_:=hd 24 Wr
     exact ze
    ·exact ze
    ·exact ze
    ·have d27:x 27=_:=hd 27 Wr
     have htI:=Gn.o
     go_wp2_with fail
     exact⟨congrArg (Value.int .i64) Gv.o,Wd⟩
    ·have d28:x 28=_:=hd 28 Wr
     have hmI:=Gj.o
     exact ze
    ·have d26:x 26=_:=hd 26 Wr
     have d29:x 29=_:=hd 29 Wr
     have hmI:=Gj.o
     exact ze
    ·have d30:x 30=_:=hd 30 Wr
     have q:=hkw.cell (Mt.o) Wz
     exact ze
    ·have d31:x 31=_:=hd 31 Wr
     have hy:=Mx.o
     exact ze
    ·have d25:x 25=_:=hd 25 Wr
     have d32:x 32=_:=hd 32 Wr
     exact ze
   ·intro x w7 hkw b7 hd hwin
    have d0:x 0=_:=hd 0 Wo
    have d33:x 33=_:=hd 33 Wo
    have Ge:=qI hkw
    have Gk:=qI (Jt.o.kept hkw Wz)
    clear hd hwin hkw
    rw [← Jl.o] at d33
    have Jm:=qI (Gk.o.store ac)
    have q1:w7.cell? ⟨wb,t,none⟩=some (.int .u32 0):=by
     have h9:=Gk.o.cell (j:=t) (by rw [List.length_append,yf];simp)
     rw [h9]
     simp [List.getD_eq_getElem?_getD,yf]
    have z1:w7.frozen? ⟨wb,t,none⟩=false:=Gk.o.free
    change wpList _ _ _ [_,_] _ _
    go_wp2_with fail
    case roundEnd=>
     refine⟨⟨t+1,by go_num,by have:=Gb.o;omega,(Gm.o.then Ge.o).trans' ((zb.refl [wb] w7).setCell (.inl Wz) _),?_⟩,by have:=Gb.o;simp [intOf];omega⟩
     have h9:=Jm.o
     rw [yf] at h9
     rw [Mp.o,show 64-(t+1)=63-t by omega]
     exact h9
  ·obtain⟨q,rfl⟩:∃ q,t=q+16:=⟨t - 16,Ws⟩
   have h16I:¬ ((q:Int)+16<16):=Ws
   have h16N:¬ (q+16<16):=h16
   have Gc:Hid (0≤(q:Int)∧(q:Int)<48):=qI ⟨Ws,Ws⟩
   obtain⟨A,Bv,C,D,Gu,My,Mz,Jn,Jo⟩:∃ A Bv C D:Int,Hid (yE l (q+16+1)=yE l (q+16)++[((((((C+(bits .xor .u32 (bits .xor .u32 (yy 33554432 128 A) (yy 16384 262144 A)) (A/8)))%4294967296)+D)%4294967296)+(bits .xor .u32 (bits .xor .u32 (yy 32768 131072 Bv) (yy 8192 524288 Bv)) (Bv/1024)))%4294967296)])∧Hid (wr.cell? ⟨wb,q+1,none⟩=some (.int .u32 A))∧Hid (wr.cell? ⟨wb,q+14,none⟩=some (.int .u32 Bv))∧Hid (wr.cell? ⟨wb,q,none⟩=some (.int .u32 C))∧Hid (wr.cell? ⟨wb,q+9,none⟩=some (.int .u32 D)):=by
    obtain⟨A,hA⟩:∃ A,A=(yE l (q+16)).getD (q+1) 0:=⟨_,rfl⟩
    obtain⟨B,hB⟩:∃ B,B=(yE l (q+16)).getD (q+14) 0:=⟨_,rfl⟩
    obtain⟨C,hC⟩:∃ C,C=(yE l (q+16)).getD q 0:=⟨_,rfl⟩
    obtain⟨D,hD⟩:∃ D,D=(yE l (q+16)).getD (q+9) 0:=⟨_,rfl⟩
    have hwd:=Gy.o
    refine⟨A,B,C,D,qI ?_,qI (by rw [hA];exact hwd.cell (by rw [yf];omega)),qI (by rw [hB];exact hwd.cell (by rw [yf];omega)),qI (by rw [hC];exact hwd.cell (by rw [yf];omega)),qI (by rw [hD];exact hwd.cell (by rw [yf];omega))⟩
    have h1:yE l (q+16+1)=yE l (q+16)++[(C+s0W A+D+s1W B)%4294967296]:=by
     show yE l (q+16)++[if q+16<16 then _ else _]=_
     rw [if_neg Ws]
     unfold nextW
     rw [yf,hA,hB,hC,hD,show q+16-16=q by omega,show q+16-15=q+1 by omega,show q+16-7=q+9 by omega,show q+16-2=q+14 by omega]
    rw [h1,sum_four]
    rfl
   have hcast:((q+16:Nat):Int)=(q:Int)+16:=Ws
   have E0:=zz My.o
   have E1:=zz Mz.o
   have hw1:IntKind.i64.wrap ((q:Int)+16-15)=q+1:=by have:=Gc.o;rw [IntKind.wrap_i64];omega
   have hw14:IntKind.i64.wrap ((q:Int)+16-2)=q+14:=by have:=Gc.o;rw [IntKind.wrap_i64];omega
   clear h16 hlt
   go_upto_region 9 with fail
   have hqI:(q:Int)+16<64:=Ws
   have hq0:(0:Int)≤q:=Ws
   have hq64:(q:Int)<64:=Ws
   refine yn wr Wr Wr Wd ?_
   repeat go_big_quiet_step (fail)
   refine wpQuiet_nil ?_
   intro w2 hk2
   have Gg:=qI hk2
   clear E0 E1 hk2 hw1 hw14
   have Jn:=qI (Gg.o.cell Jn.o Wz)
   have Jo:=qI (Gg.o.cell Jo.o Wz)
   go_upto_region 10 with fail
   have Ju:Hid (IntKind.i64.wrap (q:Int)=q∧IntKind.i64.wrap ((q:Int)+16-7)=q+9):=qI ⟨by have:=Gc.o;rw [IntKind.wrap_i64];omega,by have:=Gc.o;rw [IntKind.wrap_i64];omega⟩
   clear hqI hq0 hq64 h16I
   refine zK (n:=198) 28 [fI (.int .i64 (q+16)),
    fI (.int .i64 (q+16)),
    fI (.int .i64 q),
    fI (.pointer (some ⟨wb,q,none⟩)),
    fI (.int .u32 C),
    fI (.int .u32 A),
    fI (.int .u32 (yy 33554432 128 A)),
    fI (.int .u32 A),
    fI (.int .u32 (yy 16384 262144 A)),
    fI (.int .u32 (bits .xor .u32 (yy 33554432 128 A) (yy 16384 262144 A))),
    fI (.int .u32 A),
    fI (.int .u32 (A/8)),
    fI (.int .u32 (bits .xor .u32 (bits .xor .u32 (yy 33554432 128 A) (yy 16384 262144 A)) (A/8))),
    fI (.int .u32 ((C+(bits .xor .u32 (bits .xor .u32 (yy 33554432 128 A) (yy 16384 262144 A)) (A/8)))%4294967296)),
    fI (.int .i64 (q+16)),
    fI (.int .i64 (q+9)),
    fI (.pointer (some ⟨wb,q+9,none⟩)),
    fI (.int .u32 D),
    fI (.int .u32 ((((C+(bits .xor .u32 (bits .xor .u32 (yy 33554432 128 A) (yy 16384 262144 A)) (A/8)))%4294967296)+D)%4294967296)),
    fI (.int .u32 Bv),
    fI (.int .u32 (yy 32768 131072 Bv)),
    fI (.int .u32 Bv),
    fI (.int .u32 (yy 8192 524288 Bv)),
    fI (.int .u32 (bits .xor .u32 (yy 32768 131072 Bv) (yy 8192 524288 Bv))),
    fI (.int .u32 Bv),
    fI (.int .u32 (Bv/1024)),
    fI (.int .u32 (bits .xor .u32 (bits .xor .u32 (yy 32768 131072 Bv) (yy 8192 524288 Bv)) (Bv/1024))),
    fI (.int .u32 ((((((C+(bits .xor .u32 (bits .xor .u32 (yy 33554432 128 A) (yy 16384 262144 A)) (A/8)))%4294967296)+D)%4294967296)+(bits .xor .u32 (bits .xor .u32 (yy 32768 131072 Bv) (yy 8192 524288 Bv)) (Bv/1024)))%4294967296))] Wr rfl Wr (fun x=>yH) ?_ ?_
   ·refine⟨?_,?_,?_,?_,?_,?_,?_,?_,?_,?_,?_,?_,?_,?_,?_,?_,?_,?_,?_,?_,?_,?_,?_,?_,?_,?_,?_,?_,trivial⟩ <;> intro x w2 hkw b hd
    ·exact ze
    ·exact ze
    ·have d1:x 1=_:=hd 1 Wr
     have hw0:=Ju.o.1
     exact ze
    ·have d2:x 2=_:=hd 2 Wr
     have hq0:=Gc.o.1
     have hq64:(q:Int)<64:=by have:=Gc.o.2;omega
     have hq9:(0:Int)≤q+9:=Ws
     have hq94:(q:Int)+9<64:=by have:=Gc.o.2;omega
     have hqn:((q:Int)+9).toNat=q+9:=Ws
     exact ze
    ·have d3:x 3=_:=hd 3 Wr
     have q0:=hkw.cell Jn.o Wz
     exact ze
    ·exact ze
    ·have d5:x 5=_:=hd 5 Wr
     have CX:=kg A 7 33554432 128 (by unfold qi;decide) w2
     go_wp2_with (go_at_call 120;refine CX.mono ?_;rintro e w5 ⟨rfl,rfl⟩)
     exact⟨rfl,Wd⟩
    ·exact ze
    ·have d7:x 7=_:=hd 7 Wr
     have CX:=kg A 18 16384 262144 (by unfold qi;decide) w2
     go_wp2_with (go_at_call 120;refine CX.mono ?_;rintro e w5 ⟨rfl,rfl⟩)
     exact⟨rfl,Wd⟩
    ·have d6:x 6=_:=hd 6 Wr
     have d8:x 8=_:=hd 8 Wr
     exact ze
    ·exact ze
    ·have d10:x 10=_:=hd 10 Wr
     exact ze
    ·have d9:x 9=_:=hd 9 Wr
     have d11:x 11=_:=hd 11 Wr
     exact ze
    ·have d4:x 4=_:=hd 4 Wr
     have d12:x 12=_:=hd 12 Wr
     exact ze
    ·exact ze
    ·have d14:x 14=_:=hd 14 Wr
     have hw7:=Ju.o.2
     exact ze
    ·have d15:x 15=_:=hd 15 Wr
     have hq0:=Gc.o.1
     have hq64:(q:Int)<64:=by have:=Gc.o.2;omega
     have hq9:(0:Int)≤q+9:=Ws
     have hq94:(q:Int)+9<64:=by have:=Gc.o.2;omega
     have hqn:((q:Int)+9).toNat=q+9:=Ws
     exact ze
    ·have d16:x 16=_:=hd 16 Wr
     have q0:=hkw.cell Jo.o Wz
     exact ze
    ·have d13:x 13=_:=hd 13 Wr
     have d17:x 17=_:=hd 17 Wr
     exact ze
    ·exact ze
    ·have d19:x 19=_:=hd 19 Wr
     have CX:=kg Bv 17 32768 131072 (by unfold qi;decide) w2
     go_wp2_with (go_at_call 120;refine CX.mono ?_;rintro e w5 ⟨rfl,rfl⟩)
     exact⟨rfl,Wd⟩
    ·exact ze
    ·have d21:x 21=_:=hd 21 Wr
     have CX:=kg Bv 19 8192 524288 (by unfold qi;decide) w2
     go_wp2_with (go_at_call 120;refine CX.mono ?_;rintro e w5 ⟨rfl,rfl⟩)
     exact⟨rfl,Wd⟩
    ·have d20:x 20=_:=hd 20 Wr
     have d22:x 22=_:=hd 22 Wr
     exact ze
    ·exact ze
    ·have d24:x 24=_:=hd 24 Wr
     exact ze
    ·have d23:x 23=_:=hd 23 Wr
     have d25:x 25=_:=hd 25 Wr
     exact ze
    ·have d18:x 18=_:=hd 18 Wr
     have d26:x 26=_:=hd 26 Wr
     exact ze
   ·intro x w7 hkw b7 hd hwin
    have d0:x 0=_:=hd 0 Wo
    have d27:x 27=_:=hd 27 Wo
    have Ge:=qI (Gg.o.then hkw)
    have Gk:=qI (Jt.o.kept Ge.o Wz)
    clear hd hwin hkw
    obtain⟨ac,Ya⟩:∃ ac,Hid (ac=((((((C+(bits .xor .u32 (bits .xor .u32 (yy 33554432 128 A) (yy 16384 262144 A)) (A/8)))%4294967296)+D)%4294967296)+(bits .xor .u32 (bits .xor .u32 (yy 32768 131072 Bv) (yy 8192 524288 Bv)) (Bv/1024)))%4294967296)):=⟨_,qI rfl⟩
    rw [← Ya.o] at d27 Gu
    have Jm:=qI (Gk.o.store ac)
    have q1:w7.cell? ⟨wb,q+16,none⟩=some (.int .u32 0):=by
     have h9:=Gk.o.cell (j:=q+16) (by rw [List.length_append,yf];simp)
     rw [h9]
     simp [List.getD_eq_getElem?_getD,yf]
    have z1:w7.frozen? ⟨wb,q+16,none⟩=false:=Gk.o.free
    have hqI:=Gc.o.2
    have hq0:=Gc.o.1
    change wpList _ _ _ [_,_] _ _
    have hq16:(0:Int)≤q+16:=Ws
    have hqI:(q:Int)+16<64:=Ws
    have hqn16:((q:Int)+16).toNat=q+16:=Ws
    go_wp2_with fail
    case roundEnd=>
     refine⟨⟨q+16+1,by go_num,by have:=Gb.o;omega,(Gm.o.then Ge.o).trans' ((zb.refl [wb] w7).setCell (.inl Wz) _),?_⟩,by have:=Gb.o;simp [intOf];omega⟩
     have h9:=Jm.o
     rw [yf] at h9
     rw [Gu.o,show 64-(q+16+1)=63-(q+16) by omega]
     exact h9
end Go.Proofs.YtibnfbglanpoiaaGreatDoor

/- Parts of one proof, merged: XGL. -/
import Derived.Test.YtibnfbglanpoiaaGreatDoorQcAE
import Derived.Test.YtibnfbglanpoiaaGreatDoorQcK
import Derived.Test.YtibnfbglanpoiaaGreatDoorQcL
import Derived.Test.YtibnfbglanpoiaaGreatDoorQcM
set_option linter.all false
set_option maxHeartbeats 12800000
set_option maxRecDepth 10000
set_option linter.unusedVariables false
set_option linter.unusedSimpArgs false
set_option linter.unnecessarySimpa false
namespace Go.Proofs.YtibnfbglanpoiaaGreatDoor
open Go.Proofs.Tryz
open Go.RowKit
theorem or_bytes (y0 y1 y2 y3:Int) (h0:0≤y0∧y0 < 256) (h1:0≤y1∧y1 < 256) (h2:0≤y2∧y2 < 256) (h3:0≤y3∧y3 < 256):(bits .or .u32 (bits .or .u32 (bits .or .u32 (y0 * 16777216 % 4294967296) (y1 * 65536 % 4294967296)) (y2 * 256 % 4294967296)) y3)=y0 * 16777216 + y1 * 65536 + y2 * 256 + y3:=by
 have hk:∀ n:Int,0≤n→n < 2 ^ 32→IntKind.u32.wrap n=n:=fun n a b=>by rw [IntKind.wrap_u32];omega
 rw [Int.emod_eq_of_lt (by omega) (by omega),Int.emod_eq_of_lt (by omega) (by omega),Int.emod_eq_of_lt (by omega) (by omega)]
 rw [bits_join .u32 32 (by decide) hk 24 (y0 * 16777216) (y1 * 65536) (by omega) (by omega) (by omega) (by omega) (by omega) (by omega)]
 rw [bits_join .u32 32 (by decide) hk 16 (y0 * 16777216 + y1 * 65536) (y2 * 256) (by omega) (by omega) (by omega) (by omega) (by omega) (by omega)]
 rw [bits_join .u32 32 (by decide) hk 8 (y0 * 16777216 + y1 * 65536 + y2 * 256) y3 (by omega) (by omega) (by omega) (by omega) (by omega) (by omega)]
theorem ZZ (w:Int) (c:UInt8) (h0:0≤w) (h1:w < 16777216):bits .or .u32 (w * 256 % 4294967296) (c.toNat:Int)=w * 256 + c.toNat:=by
 have hk:∀ n:Int,0≤n→n < 2 ^ 32→IntKind.u32.wrap n=n:=fun n a b=>by rw [IntKind.wrap_u32];omega
 have hc:=c.toNat_lt
 rw [Int.emod_eq_of_lt (by omega) (by omega)]
 exact bits_join .u32 32 (by decide) hk 8 _ _ (by omega) (by omega) (by omega) (by omega) (by omega) (by omega)
theorem acc_four (a b c d:UInt8):accW [a,b,c,d]=(a.toNat:Int) * 16777216 + (b.toNat:Int) * 65536 + (c.toNat:Int) * 256 + d.toNat:=by
 have ha:=a.toNat_lt
 have hb:=b.toNat_lt
 have hc:=c.toNat_lt
 unfold accW
 simp only [List.foldl_cons,List.foldl_nil]
 rw [ZZ 0 a (by omega) (by omega),ZZ _ b (by omega) (by omega),ZZ _ c (by omega) (by omega),ZZ _ d (by omega) (by omega)]
 omega
theorem take_fourB (l:List UInt8) (m:Nat) (h:m + 3 < l.length):(l.drop m).take 4=[l[m],l[m + 1],l[m + 2],l[m + 3]]:=by
 rw [List.drop_eq_getElem_cons (by omega),List.drop_eq_getElem_cons (by omega),List.drop_eq_getElem_cons (by omega),List.drop_eq_getElem_cons (by omega)]
 rfl
theorem sum_four (c a d b:Int):(c + a + d + b) % 4294967296=(((c + a) % 4294967296 + d) % 4294967296 + b) % 4294967296:=by omega
def W8 (w:World) (g:Nat) (s:S8):Prop:=w.heap[g]? = some (.cells (s.list.map wv).toArray 135 (0,0))
theorem W8.kept {X:List Nat}{w w':World}{g:Nat}{s:S8}(h:W8 w g s) (k:zb X w w') (hg:g ∉ X):W8 w' g s:=k.heap h hg
theorem W8.range {w:World}{g:Nat}{s:S8}(h:W8 w g s):w.rangeAt g 0 (s.list.map wv):=fun j v hv=>by
 rw [Nat.zero_add];exact za h (by simpa using hv)
theorem info8:(Tryz.prog.info? 135).map (·.size)=some 8:=by kernel_rfl
theorem bf {ops:Array Oper}{rest:List Oper}{op:Oper}{a:Act}{w:World}{Q:Exit→Act→World→Prop}(hgd:op.guard=none) (x:Operand) (ho:op.op = .load 135 x) {g:Nat}{s:S8}(h0:W8 w g s)
  (hx:a.eval x = .pointer (some ⟨g,0,none⟩)) (h:wpList Tryz.prog ops Q rest (a.put op.dst (.agg (s.list.map wv).toArray)) w):wpList Tryz.prog ops Q (op :: rest) a w:=
 wpList_load_mid hgd 135 x ho g 0 hx (s.list.map wv) _ h0.range underlying135 rfl info8 h
theorem qH {ops:Array Oper}{rest:List Oper}{op:Oper}{a:Act}{w:World}{Q:Exit→Act→World→Prop}(hgd:op.guard=none) (x y:Operand) (ho:op.op = .store 135 x y) {g:Nat}{s r:S8}(h0:W8 w g s)
  (hx:a.eval x = .pointer (some ⟨g,0,none⟩)) (hy:a.eval y = .agg (r.list.map wv).toArray) (h:∀ w',W8 w' g r→zb [g] w w'→wpList Tryz.prog ops Q rest (a.put op.dst undef) w'):wpList Tryz.prog ops Q (op :: rest) a w:=by
 obtain⟨L,hL⟩:∃ L,L=r.list.map wv:=⟨_,rfl⟩
 have hl8:L.length=8:=by rw [hL];rfl
 have hone:∀ v,v ∈ L→v.oneCell'=true:=fun v hv=>by rw [hL] at hv;obtain⟨x,-,rfl⟩:=List.mem_map.1 hv;rfl
 rw [← hL] at hy
 refine wpList_store_mid hgd 135 x y ho g 0 L.toArray hx hy (fun j hj=>?_) (by rw [List.size_toArray,hl8];exact info8) (all_oneCell_toArray hone) (h _ ?_ (z7 _ _ _ _))
 ·have hj8:j < 8:=by rw [List.size_toArray,hl8] at hj;exact hj
  rw [Nat.zero_add]
  have hj':j < (s.list.map wv).length:=hj8
  exact⟨by rw [za (v:=(s.list.map wv)[j]) h0 (by rw [List.getElem?_toArray];exact List.getElem?_eq_getElem hj')];rfl,zh h0⟩
 ·rw [List.toList_toArray]
  obtain⟨cur,h1,h2,h3⟩:=xx g L 0 w _ h0
  have hz:cur.size=8:=h2.trans rfl
  have e:cur=L.toArray:=by
   apply Array.ext'
   rw [List.toList_toArray]
   apply List.ext_getElem?
   intro j
   rw [Array.getElem?_toList]
   by_cases hj:j < 8
   ·rw [h3 j (by rw [← h2,hz];exact hj),if_pos ⟨Nat.zero_le _,by rw [Nat.zero_add,hl8];exact hj⟩,Nat.sub_zero]
   ·rw [Array.getElem?_eq_none (by omega),List.getElem?_eq_none (by simp only [List.toList_toArray];omega)]
  unfold W8
  rw [h1,e,hL]
theorem W8.var {w:World}{g:Nat}{s:S8}(h:W8 w g s):(loadVar 135 ⟨g,0,none⟩).run Tryz.prog w = .ok (.agg (s.list.map wv).toArray) w:=run_loadVar_mid (P:=Tryz.prog) w g 0 135 (s.list.map wv) _ h.range underlying135 rfl info8
theorem sum_five (h x y k v:Int):((((h + x) % 4294967296 + y) % 4294967296 + k) % 4294967296 + v) % 4294967296=((h + x + y + k) % 4294967296 + v) % 4294967296:=by omega
def Q9 (s r:S8) (k:Nat):S8:=⟨if 0 < k then (r.a + s.a) % 4294967296 else r.a,if 1 < k then (r.b + s.b) % 4294967296 else r.b,if 2 < k then (r.c + s.c) % 4294967296 else r.c,if 3 < k then (r.d + s.d) % 4294967296 else r.d,if 4 < k then (r.e + s.e) % 4294967296 else r.e,if 5 < k then (r.f + s.f) % 4294967296 else r.f,if 6 < k then (r.g + s.g) % 4294967296 else r.g,if 7 < k then (r.h + s.h) % 4294967296 else r.h⟩
theorem b8 {P:Nat→Prop}(h0:P 0) (h1:P 1) (h2:P 2) (h3:P 3) (h4:P 4) (h5:P 5) (h6:P 6) (h7:P 7):∀ k,k < 8→P k
 | 0,_=>h0 | 1,_=>h1 | 2,_=>h2 | 3,_=>h3 | 4,_=>h4 | 5,_=>h5 | 6,_=>h6 | 7,_=>h7
 | _ + 8,h=>by omega
theorem w8_at {w:World}{g:Nat}{s:S8}(h:W8 w g s) {k:Nat}(hk:k < 8):w.cell? ⟨g,k,none⟩=some (.int .u32 (s.get k)):=by
 refine b8 (P:=fun k=>w.cell? ⟨g,k,none⟩=some (.int .u32 (s.get k))) ?_ ?_ ?_ ?_ ?_ ?_ ?_ ?_ k hk
 all_goals exact za h rfl
theorem mix_at {w:World}{g:Nat}{s r:S8}{k:Nat}(h:W8 w g (Q9 s r k)) (hk:k < 8):w.cell? ⟨g,k,none⟩=some (.int .u32 (r.get k)):=by
 have h1:=w8_at h hk
 have h2:∀ k,k < 8→(Q9 s r k).get k=r.get k:=b8 rfl rfl rfl rfl rfl rfl rfl rfl
 rw [h1,h2 k hk]
theorem mix_set {w:World}{g:Nat}{s r:S8}:∀ {k:Nat},W8 w g (Q9 s r k)→k < 8→W8 (w.setCell ⟨g,k,none⟩ (.int .u32 ((r.get k + s.get k) % 4294967296))) g (Q9 s r (k + 1)):=by
 intro k h hk
 refine b8 (P:=fun k=>W8 w g (Q9 s r k)→W8 (w.setCell ⟨g,k,none⟩ (.int .u32 ((r.get k + s.get k) % 4294967296))) g (Q9 s r (k + 1))) ?_ ?_ ?_ ?_ ?_ ?_ ?_ ?_ k hk h
 all_goals exact fun h=>ze h rfl
theorem block_mix (s:S8) (l:List UInt8):xH s l=Q9 s (runS (yp l 64) s 64) 8:=by
 unfold xH
 generalize runS (yp l 64) s 64=r
 show S8.mk _ _ _ _ _ _ _ _=S8.mk _ _ _ _ _ _ _ _
 simp only [S8.mk.injEq]
 exact⟨congrArg (· % 4294967296) (Int.add_comm _ _),congrArg (· % 4294967296) (Int.add_comm _ _),congrArg (· % 4294967296) (Int.add_comm _ _),congrArg (· % 4294967296) (Int.add_comm _ _),congrArg (· % 4294967296) (Int.add_comm _ _),congrArg (· % 4294967296) (Int.add_comm _ _),congrArg (· % 4294967296) (Int.add_comm _ _),congrArg (· % 4294967296) (Int.add_comm _ _)⟩
set_option maxRecDepth 100000 in
theorem refBlock_any (w:World) (s:S8) (a:Option Addr) (c:Nat) (l:List UInt8) (hl:l.length=64) (hb:zp w (.slice a 64 c) l) :
  Calls Tryz.prog 88 #[.agg (s.list.map wv).toArray,.slice a 64 c] w fun e w'=>e = .returned (.agg ((xH s l).list.map wv).toArray)∧zb [] w w':=by
 obtain⟨z8,Jv⟩:∃ z8,Hid (z8=S8.mk 0 0 0 0 0 0 0 0):=⟨_,qI rfl⟩
 obtain⟨W0,Gl⟩:∃ W0,Hid (W0=((w.alloc (.cells (s.list.map wv).toArray 135)).alloc (.cells (z8.list.map wv).toArray 135)).alloc (.cells (zO [] 64).toArray 169)):=⟨_,qI rfl⟩
 have Jp:Hid (zb [] w W0):=qI (by rw [Gl.o];exact (((zb.refl [] w).alloc _).alloc _).alloc _)
 have Jw:Hid (W8 W0 w.heap.size s):=qI (by rw [Gl.o];exact (((zb.refl [] _).alloc _).alloc _).heap (zd rfl) (by simp))
 have Jx:Hid (W8 W0 (w.heap.size + 1) z8):=qI (by rw [Gl.o];exact ((zb.refl [] _).alloc _).heap (zd (by simp)) (by simp))
 have Jy:Hid (W0.heap.size=w.heap.size + 3):=qI (by rw [Gl.o];simp)
 obtain⟨wb,Gi⟩:∃ wb,Hid (wb=w.heap.size + 2):=⟨_,qI rfl⟩
 have Gw:Hid (wb=w.heap.size + 1 + 1):=qI (by rw [Gi.o])
 have Gx:Hid (yE W0 wb [] 64):=qI (by rw [Gl.o,Gi.o];exact zd (by simp))
 obtain⟨g,o,rfl,-⟩:∃ g o,a=some ⟨g,o,none⟩∧w.cell? ⟨g,o + 0,none⟩=some (.int .u8 (l[0]'(by omega)).toNat):=zp.at (l:=l) (c:=c) (by rw [hl];exact hb) (by omega)
 have HB:=qI (show zp W0 (.slice (some ⟨g,o,none⟩) l.length c) l by rw [hl];exact Slc.kept0 hb Jp.o)
 have Jz:Hid (g < w.heap.size):=qI (Slc.lt hb rfl)
 have Ma:=qI hl
 clear hb hl
 go_enter func88,ntmps88
 go_upto_region 4 with fail
 change Code.wp _ _ _ _ (((w.alloc (.cells (s.list.map wv).toArray 135)).alloc (.cells ((S8.mk 0 0 0 0 0 0 0 0).list.map wv).toArray 135)).alloc (.cells (zO [] 64).toArray 169))
 rw [← Jv.o,← Gl.o,← Gw.o]
 go_wp2_with fail
 go_loopw [6,7,8] (fun i _ _ wr=>∃ t:Nat,i = .int .i64 t∧t≤64∧zb [wb] W0 wr∧yE wr wb (yp l t) (64 - t)) (fun i _ _ _=>64 - (intOf i).toNat)
 case atStart=>exact⟨0,rfl,by decide,zb.refl _ _,Gx.o⟩
 case round=>
  obtain⟨t,rfl,ht,hkw,hwd⟩:=hrel
  have Gm:=qI hkw
  have Gy:=qI hwd
  have Mb:Hid (zb [] w wr):=qI (Jp.o.trans hkw (by intro i hi;simp at hi;subst hi;exact .inr (by have:=Gi.o;omega)))
  clear hkw hwd
  by_cases hlt:t < 64
  rotate_left
  ·obtain rfl:t=64:=by omega
   have Jq:=qI (W8.kept Jw.o Gm.o (by have:=Gi.o;simp;omega))
   have Mc:=qI (W8.kept Jx.o Gm.o (by have:=Gi.o;simp;omega))
   have Gz:Hid (W0.heap.size≤wr.heap.size):=qI Gm.o.size
   have hge:¬ (64:Nat) < 64:=hlt
   obtain⟨WS,Ja⟩:∃ WS,Hid (WS=yp l 64):=⟨_,qI rfl⟩
   have Md:Hid (WS.length=64):=qI (by rw [Ja.o,zS])
   have Jb:Hid (yE wr wb WS 0):=qI (by rw [Ja.o];exact Gy.o)
   clear hlt ht
   go_upto_region 11 with fail
   obtain⟨sb,Gq⟩:∃ sb,Hid (sb=wr.heap.size):=⟨_,qI rfl⟩
   go_upto_region 12 with first
    | (refine bf (by rfl) (.tmp 2) (by rfl) Jq.o (by rfl) ?_)
    | (refine qH (by rfl) (.tmp 9) (.tmp 96) (by rfl) (g:=wr.heap.size) (s:=S8.mk 0 0 0 0 0 0 0 0) (r:=s) (zd rfl) (by rfl) (by rfl) ?_;intro w2 h2 hk2;rw [← Gq.o] at h2 hk2;have Me:=qI h2;have Gg:Hid (zb [] wr w2):=qI (((zb.refl [] wr).alloc _).trans hk2 (by intro i hi;simp at hi;subst hi;rw [Gq.o];exact .inr (Nat.le_refl _)));clear h2 hk2;simp only [Act.put])
   rw [← Gq.o]
   have Jc:Hid (zb [] w w2):=qI (Mb.o.then Gg.o)
   have Jd:=qI (Jb.o.kept Gg.o (by simp))
   have Gr:Hid (w.heap.size + 3≤sb∧wb < sb):=qI (by have:=Gq.o;have:=Gz.o;have:=Jy.o;have:=Gi.o;omega)
   go_wp2_with fail
   go_loopw [10,11,12] (fun i _ _ wq=>∃ t:Nat,i = .int .i64 t∧t≤64∧W8 wq sb (runS WS s t)∧zb [sb] w2 wq) (fun i _ _ _=>64 - (intOf i).toNat)
   case atStart=>exact⟨0,rfl,by decide,Me.o,zb.refl _ _⟩
   case round=>
    obtain⟨t,rfl,ht,hst,hkw2⟩:=hrel
    have Je:=qI hkw2
    have Gd:=qI hst
    clear hkw2 hst
    by_cases hlt:t < 64
    rotate_left
    ·obtain rfl:t=64:=by omega
     have hge2:¬ (64:Nat) < 64:=hlt
     obtain⟨r,Gp⟩:∃ r,Hid (r=runS WS s 64):=⟨_,qI rfl⟩
     rw [← Gp.o] at Gd
     obtain⟨WR,Yb⟩:∃ WR,Hid (WR=wr):=⟨_,qI rfl⟩
     clear hlt ht
     go_wp2_with fail
     go_loopw [13] (fun i wq=>∃ k:Nat,i = .int .i64 k∧k≤8∧W8 wq sb (Q9 s r k)∧zb [sb] w2 wq) (fun i _=>8 - (intOf i).toNat)
     case atStart=>exact⟨0,rfl,by decide,Gd.o,Je.o⟩
     case round=>
      obtain⟨k,rfl,hk,hmx,hkv⟩:=hrel
      have Gs:=qI hkv
      have Jf:=qI hmx
      clear hkv hmx
      have Mf:=qI (W8.kept (W8.kept Jq.o Gg.o (by simp)) Gs.o (by have:=Gr.o;simp;omega))
      by_cases hlt:k < 8
      ·have hltI:(k:Int) < 8:=by omega
       have Jg:Hid ((k:Int) < 8):=qI hltI
       have Mg:=qI (mix_at Jf.o hlt)
       have Mh:=qI (w8_at Mf.o hlt)
       have Gb:=qI hlt
       clear hlt
       go_upto_region 21 with fail
       refine zZ (n:=198) 8 [zg.is (.int .i64 k),
        zg.is (.int .i64 k),
        zg.is (.pointer (some ⟨sb,k,none⟩)),
        zg.is (.int .u32 (r.get k)),
        zg.is (.int .i64 k),
        zg.is (.pointer (some ⟨w.heap.size,k,none⟩)),
        zg.is (.int .u32 (s.get k)),
        zg.is (.int .u32 ((r.get k + s.get k) % 4294967296))] (by kernel_rfl) rfl (by kernel_rfl) (fun x=>by simp only [List.map,yM,Act.put,List.setIfInBounds_toArray,List.set_cons_zero,List.set_cons_succ];rfl) ?_ ?_
       ·refine⟨fun x w2 hkw b hd=>?_,fun x w2 hkw b hd=>?_,fun x w2 hkw b hd=>?_,fun x w2 hkw b hd=>?_,fun x w2 hkw b hd=>?_,fun x w2 hkw b hd=>?_,fun x w2 hkw b hd=>?_,fun x w2 hkw b hd=>?_,trivial⟩
        ·go_wp2_with fail
         exact⟨rfl,zb.refl _ _⟩
        ·go_wp2_with fail
         exact⟨rfl,zb.refl _ _⟩
        ·have d1:x 1=_:=hd 1 (by kernel_rfl)
         have hkI:=Jg.o
         go_wp2_with fail
         exact⟨rfl,zb.refl _ _⟩
        ·have d2:x 2=_:=hd 2 (by kernel_rfl)
         have y0:=hkw.cell Mg.o (by simp)
         go_wp2_with fail
         exact⟨rfl,zb.refl _ _⟩
        ·go_wp2_with fail
         exact⟨rfl,zb.refl _ _⟩
        ·have d4:x 4=_:=hd 4 (by kernel_rfl)
         have hkI:=Jg.o
         go_wp2_with fail
         exact⟨rfl,zb.refl _ _⟩
        ·have d5:x 5=_:=hd 5 (by kernel_rfl)
         have y0:=hkw.cell Mh.o (by simp)
         go_wp2_with fail
         exact⟨rfl,zb.refl _ _⟩
        ·have d3:x 3=_:=hd 3 (by kernel_rfl)
         have d6:x 6=_:=hd 6 (by kernel_rfl)
         go_wp2_with fail
         exact⟨rfl,zb.refl _ _⟩
       ·intro x w7 hkw b7 hd hwin
        have d0:x 0=_:=hd 0 (by decide)
        have d7:x 7=_:=hd 7 (by decide)
        have Ge:=qI hkw
        have Jh:=qI (W8.kept Jf.o hkw (by simp))
        clear hd hwin hkw
        have q1:=mix_at Jh.o Gb.o
        have z1:w7.frozen? ⟨sb,k,none⟩=false:=zh Jh.o
        have hkI:=Jg.o
        change wpList _ _ _ [_,_] _ _
        go_wp2_with fail
        case roundEnd=>
         exact⟨⟨k + 1,by go_num,by have:=Gb.o;omega,mix_set Jh.o Gb.o,(Gs.o.then Ge.o).trans' ((zb.refl [sb] w7).setCell (.inl (by simp)) _)⟩,by have:=Gb.o;simp [intOf];omega⟩
      ·obtain rfl:k=8:=by omega
       have hge3:¬ (8:Nat) < 8:=hlt
       have Ji:=qI (W8.kept (W8.kept Mc.o Gg.o (by simp)) Gs.o (by have:=Gr.o;simp;omega))
       have Mi:Hid (xH s l=Q9 s r 8):=qI (by rw [Gp.o,Ja.o];exact block_mix s l)
       clear hlt hk
       go_wp2_with first
        | (refine bf (by rfl) (.tmp 9) (by rfl) Jf.o (by rfl) ?_)
        | (refine qH (by rfl) (.tmp 4) (.tmp 197) (by rfl) (g:=w.heap.size + 1) (s:=z8) (r:=Q9 s r 8) Ji.o (by rfl) (by rfl) ?_;intro w9 h9 hk9;have Mj:=qI h9;have Gt:=qI hk9;clear h9 hk9;simp only [Act.put])
       have hv:=W8.var Mj.o
       refine bodyPost_ret (v:=.agg ((Q9 s r 8).list.map wv).toArray) (by simp [results,results88,hv,Sem.run_bind,asAddr]) rfl ?_
       rw [Mi.o]
       exact⟨rfl,((Jc.o).trans Gs.o (by have:=Gr.o;intro i hi;simp at hi;subst hi;exact .inr (by omega))).trans Gt.o (by intro i hi;simp at hi;subst hi;exact .inr (by omega))⟩
    have hltI:(t:Int) < 64:=by omega
    have Gn:Hid ((t:Int) < 64):=qI hltI
    obtain⟨r,Gp⟩:∃ r,Hid (r=runS WS s t):=⟨_,qI rfl⟩
    obtain⟨K,HK⟩:∃ K,Hid (K=KS.getD t 0):=⟨_,qI rfl⟩
    obtain⟨Wt,HWt⟩:∃ Wt,Hid (Wt=WS.getD t 0):=⟨_,qI rfl⟩
    have Gu:Hid (runS WS s (t + 1)=roundS r K Wt):=qI (by rw [Gp.o,HK.o,HWt.o];rfl)
    rw [← Gp.o] at Gd
    have CK:Hid (∀ w1,Calls Tryz.prog 121 #[.int .i64 t] w1 fun e w'=>e = .returned (.int .u32 K)∧zb [] w1 w'):=qI (fun w1=>by rw [HK.o];exact round_any t hlt w1)
    have Mk:Hid (wr.cell? ⟨wb,t,none⟩=some (.int .u32 Wt)):=qI (by
     rw [HWt.o]
     exact Je.o.cell (Jd.o.cell (by rw [Md.o];exact hlt)) (by have:=Gr.o;simp;omega))
    have Gf:Hid (wr.heap[sb]? = some (.cells (r.list.map wv).toArray 135 (0,0))):=Gd
    have Gb:=qI hlt
    clear hlt ht
    go_upto_region 15 with fail
    refine zZ (n:=198) 34 [zg.is (.pointer (some ⟨sb,7,none⟩)),
     zg.is (.int .u32 r.h),
     zg.is (.pointer (some ⟨sb,4,none⟩)),
     zg.is (.int .u32 r.e),
     zg.is (.int .u32 (yj 67108864 64 r.e)),
     zg.is (.pointer (some ⟨sb,4,none⟩)),
     zg.is (.int .u32 r.e),
     zg.is (.int .u32 (yj 2097152 2048 r.e)),
     zg.is (.int .u32 (bits .xor .u32 (yj 67108864 64 r.e) (yj 2097152 2048 r.e))),
     zg.is (.pointer (some ⟨sb,4,none⟩)),
     zg.is (.int .u32 r.e),
     zg.is (.int .u32 (yj 128 33554432 r.e)),
     zg.is (.int .u32 (bits .xor .u32 (bits .xor .u32 (yj 67108864 64 r.e) (yj 2097152 2048 r.e)) (yj 128 33554432 r.e))),
     zg.is (.int .u32 ((r.h + (bits .xor .u32 (bits .xor .u32 (yj 67108864 64 r.e) (yj 2097152 2048 r.e)) (yj 128 33554432 r.e))) % 4294967296)),
     zg.is (.pointer (some ⟨sb,4,none⟩)),
     zg.is (.int .u32 r.e),
     zg.is (.pointer (some ⟨sb,5,none⟩)),
     zg.is (.int .u32 r.f),
     zg.is (.int .u32 (bits .and .u32 r.e r.f)),
     zg.is (.pointer (some ⟨sb,4,none⟩)),
     zg.is (.int .u32 r.e),
     zg.is (.int .u32 (bits .xor .u32 (if IntKind.u32.signed=true then -1 else IntKind.u32.max) r.e)),
     zg.is (.pointer (some ⟨sb,6,none⟩)),
     zg.is (.int .u32 r.g),
     zg.is (.int .u32 (bits .and .u32 (bits .xor .u32 (if IntKind.u32.signed=true then -1 else IntKind.u32.max) r.e) r.g)),
     zg.is (.int .u32 (bits .xor .u32 (bits .and .u32 r.e r.f) (bits .and .u32 (bits .xor .u32 (if IntKind.u32.signed=true then -1 else IntKind.u32.max) r.e) r.g))),
     zg.is (.int .u32 ((((r.h + (bits .xor .u32 (bits .xor .u32 (yj 67108864 64 r.e) (yj 2097152 2048 r.e)) (yj 128 33554432 r.e))) % 4294967296) + (bits .xor .u32 (bits .and .u32 r.e r.f) (bits .and .u32 (bits .xor .u32 (if IntKind.u32.signed=true then -1 else IntKind.u32.max) r.e) r.g))) % 4294967296)),
     zg.is (.int .i64 t),
     zg.is (.int .u32 K),
     zg.is (.int .u32 ((((((r.h + (bits .xor .u32 (bits .xor .u32 (yj 67108864 64 r.e) (yj 2097152 2048 r.e)) (yj 128 33554432 r.e))) % 4294967296) + (bits .xor .u32 (bits .and .u32 r.e r.f) (bits .and .u32 (bits .xor .u32 (if IntKind.u32.signed=true then -1 else IntKind.u32.max) r.e) r.g))) % 4294967296) + K) % 4294967296)),
     zg.is (.int .i64 t),
     zg.is (.pointer (some ⟨wb,t,none⟩)),
     zg.is (.int .u32 Wt),
     zg.is (.int .u32 ((((((((r.h + (bits .xor .u32 (bits .xor .u32 (yj 67108864 64 r.e) (yj 2097152 2048 r.e)) (yj 128 33554432 r.e))) % 4294967296) + (bits .xor .u32 (bits .and .u32 r.e r.f) (bits .and .u32 (bits .xor .u32 (if IntKind.u32.signed=true then -1 else IntKind.u32.max) r.e) r.g))) % 4294967296) + K) % 4294967296) + Wt) % 4294967296))] (by kernel_rfl) rfl (by kernel_rfl) (fun x=>by simp only [List.map,yM,Act.put,List.setIfInBounds_toArray,List.set_cons_zero,List.set_cons_succ];rfl) ?_ ?_
    ·refine⟨fun x w2 hkw b hd=>?_,fun x w2 hkw b hd=>?_,fun x w2 hkw b hd=>?_,fun x w2 hkw b hd=>?_,fun x w2 hkw b hd=>?_,fun x w2 hkw b hd=>?_,fun x w2 hkw b hd=>?_,fun x w2 hkw b hd=>?_,fun x w2 hkw b hd=>?_,fun x w2 hkw b hd=>?_,fun x w2 hkw b hd=>?_,fun x w2 hkw b hd=>?_,fun x w2 hkw b hd=>?_,fun x w2 hkw b hd=>?_,fun x w2 hkw b hd=>?_,fun x w2 hkw b hd=>?_,fun x w2 hkw b hd=>?_,fun x w2 hkw b hd=>?_,fun x w2 hkw b hd=>?_,fun x w2 hkw b hd=>?_,fun x w2 hkw b hd=>?_,fun x w2 hkw b hd=>?_,fun x w2 hkw b hd=>?_,fun x w2 hkw b hd=>?_,fun x w2 hkw b hd=>?_,fun x w2 hkw b hd=>?_,fun x w2 hkw b hd=>?_,fun x w2 hkw b hd=>?_,fun x w2 hkw b hd=>?_,fun x w2 hkw b hd=>?_,fun x w2 hkw b hd=>?_,fun x w2 hkw b hd=>?_,fun x w2 hkw b hd=>?_,fun x w2 hkw b hd=>?_,trivial⟩
     ·go_wp2_with fail
      exact⟨rfl,zb.refl _ _⟩
     ·have d0:x 0=_:=hd 0 (by kernel_rfl)
      have y0:=hkw.cell (za (o:=7) (v:=.int .u32 r.h) Gf.o rfl) (by simp)
      go_wp2_with fail
      exact⟨rfl,zb.refl _ _⟩
     ·go_wp2_with fail
      exact⟨rfl,zb.refl _ _⟩
     ·have d2:x 2=_:=hd 2 (by kernel_rfl)
      have y0:=hkw.cell (za (o:=4) (v:=.int .u32 r.e) Gf.o rfl) (by simp)
      go_wp2_with fail
      exact⟨rfl,zb.refl _ _⟩
     ·have d3:x 3=_:=hd 3 (by kernel_rfl)
      have CX:=qJ r.e 6 67108864 64 (by unfold xP;decide) w2
      go_wp2_with (go_at_call 120;refine CX.mono ?_;rintro e w5 ⟨rfl,rfl⟩)
      exact⟨rfl,zb.refl _ _⟩
     ·go_wp2_with fail
      exact⟨rfl,zb.refl _ _⟩
     ·have d5:x 5=_:=hd 5 (by kernel_rfl)
      have y0:=hkw.cell (za (o:=4) (v:=.int .u32 r.e) Gf.o rfl) (by simp)
      go_wp2_with fail
      exact⟨rfl,zb.refl _ _⟩
     ·have d6:x 6=_:=hd 6 (by kernel_rfl)
      have CX:=qJ r.e 11 2097152 2048 (by unfold xP;decide) w2
      go_wp2_with (go_at_call 120;refine CX.mono ?_;rintro e w5 ⟨rfl,rfl⟩)
      exact⟨rfl,zb.refl _ _⟩
     ·have d4:x 4=_:=hd 4 (by kernel_rfl)
      have d7:x 7=_:=hd 7 (by kernel_rfl)
      go_wp2_with fail
      exact⟨rfl,zb.refl _ _⟩
     ·go_wp2_with fail
      exact⟨rfl,zb.refl _ _⟩
     ·have d9:x 9=_:=hd 9 (by kernel_rfl)
      have y0:=hkw.cell (za (o:=4) (v:=.int .u32 r.e) Gf.o rfl) (by simp)
      go_wp2_with fail
      exact⟨rfl,zb.refl _ _⟩
     ·have d10:x 10=_:=hd 10 (by kernel_rfl)
      have CX:=qJ r.e 25 128 33554432 (by unfold xP;decide) w2
      go_wp2_with (go_at_call 120;refine CX.mono ?_;rintro e w5 ⟨rfl,rfl⟩)
      exact⟨rfl,zb.refl _ _⟩
     ·have d8:x 8=_:=hd 8 (by kernel_rfl)
      have d11:x 11=_:=hd 11 (by kernel_rfl)
      go_wp2_with fail
      exact⟨rfl,zb.refl _ _⟩
     ·have d1:x 1=_:=hd 1 (by kernel_rfl)
      have d12:x 12=_:=hd 12 (by kernel_rfl)
      go_wp2_with fail
      exact⟨rfl,zb.refl _ _⟩
     ·go_wp2_with fail
      exact⟨rfl,zb.refl _ _⟩
     ·have d14:x 14=_:=hd 14 (by kernel_rfl)
      have y0:=hkw.cell (za (o:=4) (v:=.int .u32 r.e) Gf.o rfl) (by simp)
      go_wp2_with fail
      exact⟨rfl,zb.refl _ _⟩
     ·go_wp2_with fail
      exact⟨rfl,zb.refl _ _⟩
     ·have d16:x 16=_:=hd 16 (by kernel_rfl)
      have y0:=hkw.cell (za (o:=5) (v:=.int .u32 r.f) Gf.o rfl) (by simp)
      go_wp2_with fail
      exact⟨rfl,zb.refl _ _⟩
     ·have d15:x 15=_:=hd 15 (by kernel_rfl)
      have d17:x 17=_:=hd 17 (by kernel_rfl)
      go_wp2_with fail
      exact⟨rfl,zb.refl _ _⟩
     ·go_wp2_with fail
      exact⟨rfl,zb.refl _ _⟩
     ·have d19:x 19=_:=hd 19 (by kernel_rfl)
      have y0:=hkw.cell (za (o:=4) (v:=.int .u32 r.e) Gf.o rfl) (by simp)
      go_wp2_with fail
      exact⟨rfl,zb.refl _ _⟩
     ·have d20:x 20=_:=hd 20 (by kernel_rfl)
      go_wp2_with fail
      exact⟨rfl,zb.refl _ _⟩
     ·go_wp2_with fail
      exact⟨rfl,zb.refl _ _⟩
     ·have d22:x 22=_:=hd 22 (by kernel_rfl)
      have y0:=hkw.cell (za (o:=6) (v:=.int .u32 r.g) Gf.o rfl) (by simp)
      go_wp2_with fail
      exact⟨rfl,zb.refl _ _⟩
     ·have d21:x 21=_:=hd 21 (by kernel_rfl)
      have d23:x 23=_:=hd 23 (by kernel_rfl)
      go_wp2_with fail
      exact⟨rfl,zb.refl _ _⟩
     ·have d18:x 18=_:=hd 18 (by kernel_rfl)
      have d24:x 24=_:=hd 24 (by kernel_rfl)
      go_wp2_with fail
      exact⟨rfl,zb.refl _ _⟩
     ·have d13:x 13=_:=hd 13 (by kernel_rfl)
      have d25:x 25=_:=hd 25 (by kernel_rfl)
      go_wp2_with fail
      exact⟨rfl,zb.refl _ _⟩
     ·go_wp2_with fail
      exact⟨rfl,zb.refl _ _⟩
     ·have d27:x 27=_:=hd 27 (by kernel_rfl)
      have CX:=CK.o w2
      go_wp2_with (go_at_call 121;refine CX.mono ?_;rintro e w5 ⟨rfl,hk5⟩;have Ml:=qI hk5;clear hk5)
      exact⟨rfl,Ml.o⟩
     ·have d26:x 26=_:=hd 26 (by kernel_rfl)
      have d28:x 28=_:=hd 28 (by kernel_rfl)
      go_wp2_with fail
      exact⟨rfl,zb.refl _ _⟩
     ·go_wp2_with fail
      exact⟨rfl,zb.refl _ _⟩
     ·have d30:x 30=_:=hd 30 (by kernel_rfl)
      have htI:=Gn.o
      go_wp2_with fail
      exact⟨rfl,zb.refl _ _⟩
     ·have d31:x 31=_:=hd 31 (by kernel_rfl)
      have y0:=hkw.cell Mk.o (by simp)
      go_wp2_with fail
      exact⟨rfl,zb.refl _ _⟩
     ·have d29:x 29=_:=hd 29 (by kernel_rfl)
      have d32:x 32=_:=hd 32 (by kernel_rfl)
      go_wp2_with fail
      exact⟨rfl,zb.refl _ _⟩
    ·intro x w7 hkw b7 hd hwin
     have d33:x 33=_:=hd 33 (by decide)
     have Ge:=qI hkw
     clear hd hwin hkw
     obtain⟨T1,Jr⟩:∃ T1,Hid (T1=t1W r K Wt):=⟨_,qI rfl⟩
     have Mm:Hid (((((((((r.h + (bits .xor .u32 (bits .xor .u32 (yj 67108864 64 r.e) (yj 2097152 2048 r.e)) (yj 128 33554432 r.e))) % 4294967296) + (bits .xor .u32 (bits .and .u32 r.e r.f) (bits .and .u32 (bits .xor .u32 (if IntKind.u32.signed=true then -1 else IntKind.u32.max) r.e) r.g))) % 4294967296) + K) % 4294967296) + Wt) % 4294967296)=T1):=qI (by rw [Jr.o];unfold t1W;exact sum_five _ _ _ _ _)
     rw [Mm.o] at d33
     have Ga:Hid (w7.heap[sb]? = some (.cells (r.list.map wv).toArray 135 (0,0))):=qI (Ge.o.heap Gf.o (by simp))
     change wpList _ _ _ [_] _ _
     go_upto_region 16 with fail
     refine zZ (n:=198) 29 [zg.is (.pointer (some ⟨sb,0,none⟩)),
      zg.is (.int .u32 r.a),
      zg.is (.int .u32 (yj 1073741824 4 r.a)),
      zg.is (.pointer (some ⟨sb,0,none⟩)),
      zg.is (.int .u32 r.a),
      zg.is (.int .u32 (yj 524288 8192 r.a)),
      zg.is (.int .u32 (bits .xor .u32 (yj 1073741824 4 r.a) (yj 524288 8192 r.a))),
      zg.is (.pointer (some ⟨sb,0,none⟩)),
      zg.is (.int .u32 r.a),
      zg.is (.int .u32 (yj 1024 4194304 r.a)),
      zg.is (.int .u32 (bits .xor .u32 (bits .xor .u32 (yj 1073741824 4 r.a) (yj 524288 8192 r.a)) (yj 1024 4194304 r.a))),
      zg.is (.pointer (some ⟨sb,0,none⟩)),
      zg.is (.int .u32 r.a),
      zg.is (.pointer (some ⟨sb,1,none⟩)),
      zg.is (.int .u32 r.b),
      zg.is (.int .u32 (bits .and .u32 r.a r.b)),
      zg.is (.pointer (some ⟨sb,0,none⟩)),
      zg.is (.int .u32 r.a),
      zg.is (.pointer (some ⟨sb,2,none⟩)),
      zg.is (.int .u32 r.c),
      zg.is (.int .u32 (bits .and .u32 r.a r.c)),
      zg.is (.int .u32 (bits .xor .u32 (bits .and .u32 r.a r.b) (bits .and .u32 r.a r.c))),
      zg.is (.pointer (some ⟨sb,1,none⟩)),
      zg.is (.int .u32 r.b),
      zg.is (.pointer (some ⟨sb,2,none⟩)),
      zg.is (.int .u32 r.c),
      zg.is (.int .u32 (bits .and .u32 r.b r.c)),
      zg.is (.int .u32 (bits .xor .u32 (bits .xor .u32 (bits .and .u32 r.a r.b) (bits .and .u32 r.a r.c)) (bits .and .u32 r.b r.c))),
      zg.is (.int .u32 (((bits .xor .u32 (bits .xor .u32 (yj 1073741824 4 r.a) (yj 524288 8192 r.a)) (yj 1024 4194304 r.a)) + (bits .xor .u32 (bits .xor .u32 (bits .and .u32 r.a r.b) (bits .and .u32 r.a r.c)) (bits .and .u32 r.b r.c))) % 4294967296))] (by kernel_rfl) rfl (by kernel_rfl) (fun x=>by simp only [List.map,yM,Act.put,List.setIfInBounds_toArray,List.set_cons_zero,List.set_cons_succ];rfl) ?_ ?_
     ·refine⟨fun x w2 hkw b hd=>?_,fun x w2 hkw b hd=>?_,fun x w2 hkw b hd=>?_,fun x w2 hkw b hd=>?_,fun x w2 hkw b hd=>?_,fun x w2 hkw b hd=>?_,fun x w2 hkw b hd=>?_,fun x w2 hkw b hd=>?_,fun x w2 hkw b hd=>?_,fun x w2 hkw b hd=>?_,fun x w2 hkw b hd=>?_,fun x w2 hkw b hd=>?_,fun x w2 hkw b hd=>?_,fun x w2 hkw b hd=>?_,fun x w2 hkw b hd=>?_,fun x w2 hkw b hd=>?_,fun x w2 hkw b hd=>?_,fun x w2 hkw b hd=>?_,fun x w2 hkw b hd=>?_,fun x w2 hkw b hd=>?_,fun x w2 hkw b hd=>?_,fun x w2 hkw b hd=>?_,fun x w2 hkw b hd=>?_,fun x w2 hkw b hd=>?_,fun x w2 hkw b hd=>?_,fun x w2 hkw b hd=>?_,fun x w2 hkw b hd=>?_,fun x w2 hkw b hd=>?_,fun x w2 hkw b hd=>?_,trivial⟩
      ·go_wp2_with fail
       exact⟨rfl,zb.refl _ _⟩
      ·have d0:x 0=_:=hd 0 (by kernel_rfl)
       have y0:=hkw.cell (za (o:=0) (v:=.int .u32 r.a) Ga.o rfl) (by simp)
       go_wp2_with fail
       exact⟨rfl,zb.refl _ _⟩
      ·have d1:x 1=_:=hd 1 (by kernel_rfl)
       have CX:=qJ r.a 2 1073741824 4 (by unfold xP;decide) w2
       go_wp2_with (go_at_call 120;refine CX.mono ?_;rintro e w5 ⟨rfl,rfl⟩)
       exact⟨rfl,zb.refl _ _⟩
      ·go_wp2_with fail
       exact⟨rfl,zb.refl _ _⟩
      ·have d3:x 3=_:=hd 3 (by kernel_rfl)
       have y0:=hkw.cell (za (o:=0) (v:=.int .u32 r.a) Ga.o rfl) (by simp)
       go_wp2_with fail
       exact⟨rfl,zb.refl _ _⟩
      ·have d4:x 4=_:=hd 4 (by kernel_rfl)
       have CX:=qJ r.a 13 524288 8192 (by unfold xP;decide) w2
       go_wp2_with (go_at_call 120;refine CX.mono ?_;rintro e w5 ⟨rfl,rfl⟩)
       exact⟨rfl,zb.refl _ _⟩
      ·have d2:x 2=_:=hd 2 (by kernel_rfl)
       have d5:x 5=_:=hd 5 (by kernel_rfl)
       go_wp2_with fail
       exact⟨rfl,zb.refl _ _⟩
      ·go_wp2_with fail
       exact⟨rfl,zb.refl _ _⟩
      ·have d7:x 7=_:=hd 7 (by kernel_rfl)
       have y0:=hkw.cell (za (o:=0) (v:=.int .u32 r.a) Ga.o rfl) (by simp)
       go_wp2_with fail
       exact⟨rfl,zb.refl _ _⟩
      ·have d8:x 8=_:=hd 8 (by kernel_rfl)
       have CX:=qJ r.a 22 1024 4194304 (by unfold xP;decide) w2
       go_wp2_with (go_at_call 120;refine CX.mono ?_;rintro e w5 ⟨rfl,rfl⟩)
       exact⟨rfl,zb.refl _ _⟩
      ·have d6:x 6=_:=hd 6 (by kernel_rfl)
       have d9:x 9=_:=hd 9 (by kernel_rfl)
       go_wp2_with fail
       exact⟨rfl,zb.refl _ _⟩
      ·go_wp2_with fail
       exact⟨rfl,zb.refl _ _⟩
      ·have d11:x 11=_:=hd 11 (by kernel_rfl)
       have y0:=hkw.cell (za (o:=0) (v:=.int .u32 r.a) Ga.o rfl) (by simp)
       go_wp2_with fail
       exact⟨rfl,zb.refl _ _⟩
      ·go_wp2_with fail
       exact⟨rfl,zb.refl _ _⟩
      ·have d13:x 13=_:=hd 13 (by kernel_rfl)
       have y0:=hkw.cell (za (o:=1) (v:=.int .u32 r.b) Ga.o rfl) (by simp)
       go_wp2_with fail
       exact⟨rfl,zb.refl _ _⟩
      ·have d12:x 12=_:=hd 12 (by kernel_rfl)
       have d14:x 14=_:=hd 14 (by kernel_rfl)
       go_wp2_with fail
       exact⟨rfl,zb.refl _ _⟩
      ·go_wp2_with fail
       exact⟨rfl,zb.refl _ _⟩
      ·have d16:x 16=_:=hd 16 (by kernel_rfl)
       have y0:=hkw.cell (za (o:=0) (v:=.int .u32 r.a) Ga.o rfl) (by simp)
       go_wp2_with fail
       exact⟨rfl,zb.refl _ _⟩
      ·go_wp2_with fail
       exact⟨rfl,zb.refl _ _⟩
      ·have d18:x 18=_:=hd 18 (by kernel_rfl)
       have y0:=hkw.cell (za (o:=2) (v:=.int .u32 r.c) Ga.o rfl) (by simp)
       go_wp2_with fail
       exact⟨rfl,zb.refl _ _⟩
      ·have d17:x 17=_:=hd 17 (by kernel_rfl)
       have d19:x 19=_:=hd 19 (by kernel_rfl)
       go_wp2_with fail
       exact⟨rfl,zb.refl _ _⟩
      ·have d15:x 15=_:=hd 15 (by kernel_rfl)
       have d20:x 20=_:=hd 20 (by kernel_rfl)
       go_wp2_with fail
       exact⟨rfl,zb.refl _ _⟩
      ·go_wp2_with fail
       exact⟨rfl,zb.refl _ _⟩
      ·have d22:x 22=_:=hd 22 (by kernel_rfl)
       have y0:=hkw.cell (za (o:=1) (v:=.int .u32 r.b) Ga.o rfl) (by simp)
       go_wp2_with fail
       exact⟨rfl,zb.refl _ _⟩
      ·go_wp2_with fail
       exact⟨rfl,zb.refl _ _⟩
      ·have d24:x 24=_:=hd 24 (by kernel_rfl)
       have y0:=hkw.cell (za (o:=2) (v:=.int .u32 r.c) Ga.o rfl) (by simp)
       go_wp2_with fail
       exact⟨rfl,zb.refl _ _⟩
      ·have d23:x 23=_:=hd 23 (by kernel_rfl)
       have d25:x 25=_:=hd 25 (by kernel_rfl)
       go_wp2_with fail
       exact⟨rfl,zb.refl _ _⟩
      ·have d21:x 21=_:=hd 21 (by kernel_rfl)
       have d26:x 26=_:=hd 26 (by kernel_rfl)
       go_wp2_with fail
       exact⟨rfl,zb.refl _ _⟩
      ·have d10:x 10=_:=hd 10 (by kernel_rfl)
       have d27:x 27=_:=hd 27 (by kernel_rfl)
       go_wp2_with fail
       exact⟨rfl,zb.refl _ _⟩
     ·intro x2 w9 hkw2 b9 hd2 hwin2
      have e28:x2 28=_:=hd2 28 (by decide)
      have Gt:=qI hkw2
      clear hd2 hwin2 hkw2
      have Gh:Hid (W8 w9 sb r):=qI (Gt.o.heap Ga.o (by simp))
      obtain⟨T2,Js⟩:∃ T2,Hid (T2=t2W r):=⟨_,qI rfl⟩
      have Mn:Hid ((((bits .xor .u32 (bits .xor .u32 (yj 1073741824 4 r.a) (yj 524288 8192 r.a)) (yj 1024 4194304 r.a)) + (bits .xor .u32 (bits .xor .u32 (bits .and .u32 r.a r.b) (bits .and .u32 r.a r.c)) (bits .and .u32 r.b r.c))) % 4294967296)=T2):=qI (by rw [Js.o];rfl)
      rw [Mn.o] at e28
      have Mo:Hid (roundS r K Wt=S8.mk ((T1 + T2) % 4294967296) r.a r.b r.c ((r.d + T1) % 4294967296) r.e r.f r.g):=qI (by rw [Jr.o,Js.o];rfl)
      have y0:=za (o:=0) (v:=.int .u32 r.a) Gh.o rfl
      have y1:=za (o:=1) (v:=.int .u32 r.b) Gh.o rfl
      have y2:=za (o:=2) (v:=.int .u32 r.c) Gh.o rfl
      have y3:=za (o:=3) (v:=.int .u32 r.d) Gh.o rfl
      have y4:=za (o:=4) (v:=.int .u32 r.e) Gh.o rfl
      have y5:=za (o:=5) (v:=.int .u32 r.f) Gh.o rfl
      have y6:=za (o:=6) (v:=.int .u32 r.g) Gh.o rfl
      change wpList _ _ _ [_] _ _
      go_wp2_with (refine qH (by rfl) (.tmp 9) (.tmp 183) (by rfl) (g:=sb) (s:=r) (r:=S8.mk ((T1 + T2) % 4294967296) r.a r.b r.c ((r.d + T1) % 4294967296) r.e r.f r.g) Gh.o (by rfl) (by rfl) ?_;intro w11 h11 hk11;have Jj:=qI h11;have Jk:=qI hk11;clear h11 hk11 y0 y1 y2 y3 y4 y5 y6;simp only [Act.put])
      case roundEnd=>
       refine⟨⟨t + 1,by go_num,by have:=Gb.o;omega,?_,((Je.o.then Ge.o).then Gt.o).trans' Jk.o⟩,by have:=Gb.o;simp [intOf];omega⟩
       rw [Gu.o,Mo.o]
       exact Jj.o
  have hltI:(t:Int) < 64:=by omega
  have Gb:=qI hlt
  have Jt:Hid (yE wr wb (yp l t ++ [0]) (63 - t)):=qI (by
   have h9:=Gy.o
   unfold yE at h9 ⊢
   rw [show 64 - t=(63 - t) + 1 by have:=Gb.o;omega,← ZS] at h9
   exact h9)
  by_cases h16:t < 16
  ·have h16I:(t:Int) < 16:=by omega
   obtain⟨m,HM⟩:∃ m,Hid (m=4 * t):=⟨_,qI rfl⟩
   have Gv:Hid (4 * (t:Int)=(m:Int)):=qI (by have:=HM.o;omega)
   have Gn:Hid ((t:Int) < 16):=qI h16I
   have Gj:Hid ((m:Int) < 61):=qI (by have:=HM.o;omega)
   have hml:m + 3 < l.length:=by have:=HM.o;rw [Ma.o];omega
   obtain⟨y0,y1,y2,y3,ac,Mp,Mq,Mr,Ms,Mt,Jl,Mu,Mv,Mw,Mx⟩:∃ y0 y1 y2 y3 ac:Int,Hid (yp l (t + 1)=yp l t ++ [ac])∧Hid (wr.cell? ⟨g,o + m,none⟩=some (.int .u8 y0))∧Hid (wr.cell? ⟨g,o + (m + 1),none⟩=some (.int .u8 y1))∧Hid (wr.cell? ⟨g,o + (m + 2),none⟩=some (.int .u8 y2))∧Hid (wr.cell? ⟨g,o + (m + 3),none⟩=some (.int .u8 y3))∧Hid (ac=(bits .or .u32 (bits .or .u32 (bits .or .u32 (y0 * 16777216 % 4294967296) (y1 * 65536 % 4294967296)) (y2 * 256 % 4294967296)) y3))∧Hid (y0 % 4294967296=y0)∧Hid (y1 % 4294967296=y1)∧Hid (y2 % 4294967296=y2)∧Hid (y3 % 4294967296=y3):=by
    have hq:∀ k (hk:m + k < l.length),wr.cell? ⟨g,o + (m + k),none⟩=some (.int .u8 l[m + k].toNat):=fun k hk=>by
     obtain⟨g',o',e,q⟩:=zp.at (HB.o) hk
     simp only [Option.some.injEq,Addr.mk.injEq,and_true] at e
     obtain⟨rfl,rfl⟩:=e
     exact Gm.o.cell q (by have:=Jz.o;have:=Gi.o;simp;omega)
    have b0:=l[m].toNat_lt
    have b1:=l[m + 1].toNat_lt
    have b2:=l[m + 2].toNat_lt
    have b3:=l[m + 3].toNat_lt
    refine⟨l[m].toNat,l[m + 1].toNat,l[m + 2].toNat,l[m + 3].toNat,accW [l[m],l[m + 1],l[m + 2],l[m + 3]],qI ?_,qI (hq 0 (by omega)),qI (hq 1 (by omega)),qI (hq 2 (by omega)),qI (hq 3 (by omega)),qI ?_,qI (by omega),qI (by omega),qI (by omega),qI (by omega)⟩
    ·show yp l t ++ [if t < 16 then _ else _]=_
     rw [if_pos h16,← HM.o,take_fourB l m hml]
    ·rw [acc_four,or_bytes _ _ _ _ (by omega) (by omega) (by omega) (by omega)]
   clear hml h16 hlt
   go_upto_region 8 with fail
   refine zZ (n:=198) 34 [zg.is (.int .i64 t),
    zg.is (.slice (some ⟨g,o,none⟩) 64 c),
    zg.is (.int .i64 t),
    zg.is (.int .i64 m),
    zg.is (.pointer (some ⟨g,o + m,none⟩)),
    zg.is (.int .u8 y0),
    zg.is (.int .u32 y0),
    zg.is (.int .u32 (y0 * 16777216 % 4294967296)),
    zg.is (.slice (some ⟨g,o,none⟩) 64 c),
    zg.is (.int .i64 t),
    zg.is (.int .i64 m),
    zg.is (.int .i64 (m + 1)),
    zg.is (.pointer (some ⟨g,o + (m + 1),none⟩)),
    zg.is (.int .u8 y1),
    zg.is (.int .u32 y1),
    zg.is (.int .u32 (y1 * 65536 % 4294967296)),
    zg.is (.int .u32 (bits .or .u32 (y0 * 16777216 % 4294967296) (y1 * 65536 % 4294967296))),
    zg.is (.slice (some ⟨g,o,none⟩) 64 c),
    zg.is (.int .i64 t),
    zg.is (.int .i64 m),
    zg.is (.int .i64 (m + 2)),
    zg.is (.pointer (some ⟨g,o + (m + 2),none⟩)),
    zg.is (.int .u8 y2),
    zg.is (.int .u32 y2),
    zg.is (.int .u32 (y2 * 256 % 4294967296)),
    zg.is (.int .u32 (bits .or .u32 (bits .or .u32 (y0 * 16777216 % 4294967296) (y1 * 65536 % 4294967296)) (y2 * 256 % 4294967296))),
    zg.is (.slice (some ⟨g,o,none⟩) 64 c),
    zg.is (.int .i64 t),
    zg.is (.int .i64 m),
    zg.is (.int .i64 (m + 3)),
    zg.is (.pointer (some ⟨g,o + (m + 3),none⟩)),
    zg.is (.int .u8 y3),
    zg.is (.int .u32 y3),
    zg.is (.int .u32 (bits .or .u32 (bits .or .u32 (bits .or .u32 (y0 * 16777216 % 4294967296) (y1 * 65536 % 4294967296)) (y2 * 256 % 4294967296)) y3))] (by kernel_rfl) rfl (by kernel_rfl) (fun x=>by simp only [List.map,yM,Act.put,List.setIfInBounds_toArray,List.set_cons_zero,List.set_cons_succ];rfl) ?_ ?_
   ·refine⟨fun x w2 hkw b hd=>?_,fun x w2 hkw b hd=>?_,fun x w2 hkw b hd=>?_,fun x w2 hkw b hd=>?_,fun x w2 hkw b hd=>?_,fun x w2 hkw b hd=>?_,fun x w2 hkw b hd=>?_,fun x w2 hkw b hd=>?_,fun x w2 hkw b hd=>?_,fun x w2 hkw b hd=>?_,fun x w2 hkw b hd=>?_,fun x w2 hkw b hd=>?_,fun x w2 hkw b hd=>?_,fun x w2 hkw b hd=>?_,fun x w2 hkw b hd=>?_,fun x w2 hkw b hd=>?_,fun x w2 hkw b hd=>?_,fun x w2 hkw b hd=>?_,fun x w2 hkw b hd=>?_,fun x w2 hkw b hd=>?_,fun x w2 hkw b hd=>?_,fun x w2 hkw b hd=>?_,fun x w2 hkw b hd=>?_,fun x w2 hkw b hd=>?_,fun x w2 hkw b hd=>?_,fun x w2 hkw b hd=>?_,fun x w2 hkw b hd=>?_,fun x w2 hkw b hd=>?_,fun x w2 hkw b hd=>?_,fun x w2 hkw b hd=>?_,fun x w2 hkw b hd=>?_,fun x w2 hkw b hd=>?_,fun x w2 hkw b hd=>?_,fun x w2 hkw b hd=>?_,trivial⟩
    ·go_wp2_with fail
     exact⟨rfl,zb.refl _ _⟩
    ·go_wp2_with fail
     exact⟨rfl,zb.refl _ _⟩
    ·go_wp2_with fail
     exact⟨rfl,zb.refl _ _⟩
    ·have d2:x 2=_:=hd 2 (by kernel_rfl)
     have htI:=Gn.o
     go_wp2_with fail
     exact⟨congrArg (Value.int .i64) Gv.o,zb.refl _ _⟩
    ·have d1:x 1=_:=hd 1 (by kernel_rfl)
     have d3:x 3=_:=hd 3 (by kernel_rfl)
     have hmI:=Gj.o
     go_wp2_with fail
     exact⟨rfl,zb.refl _ _⟩
    ·have d4:x 4=_:=hd 4 (by kernel_rfl)
     have q:=hkw.cell (Mq.o) (by simp)
     go_wp2_with fail
     exact⟨rfl,zb.refl _ _⟩
    ·have d5:x 5=_:=hd 5 (by kernel_rfl)
     have hy:=Mu.o
     go_wp2_with fail
     exact⟨rfl,zb.refl _ _⟩
    ·have d6:x 6=_:=hd 6 (by kernel_rfl)
     go_wp2_with fail
     exact⟨rfl,zb.refl _ _⟩
    ·go_wp2_with fail
     exact⟨rfl,zb.refl _ _⟩
    ·go_wp2_with fail
     exact⟨rfl,zb.refl _ _⟩
    ·have d9:x 9=_:=hd 9 (by kernel_rfl)
     have htI:=Gn.o
     go_wp2_with fail
     exact⟨congrArg (Value.int .i64) Gv.o,zb.refl _ _⟩
    ·have d10:x 10=_:=hd 10 (by kernel_rfl)
     have hmI:=Gj.o
     go_wp2_with fail
     exact⟨rfl,zb.refl _ _⟩
    ·have d8:x 8=_:=hd 8 (by kernel_rfl)
     have d11:x 11=_:=hd 11 (by kernel_rfl)
     have hmI:=Gj.o
     go_wp2_with fail
     exact⟨rfl,zb.refl _ _⟩
    ·have d12:x 12=_:=hd 12 (by kernel_rfl)
     have q:=hkw.cell (Mr.o) (by simp)
     go_wp2_with fail
     exact⟨rfl,zb.refl _ _⟩
    ·have d13:x 13=_:=hd 13 (by kernel_rfl)
     have hy:=Mv.o
     go_wp2_with fail
     exact⟨rfl,zb.refl _ _⟩
    ·have d14:x 14=_:=hd 14 (by kernel_rfl)
     go_wp2_with fail
     exact⟨rfl,zb.refl _ _⟩
    ·have d7:x 7=_:=hd 7 (by kernel_rfl)
     have d15:x 15=_:=hd 15 (by kernel_rfl)
     go_wp2_with fail
     exact⟨rfl,zb.refl _ _⟩
    ·go_wp2_with fail
     exact⟨rfl,zb.refl _ _⟩
    ·go_wp2_with fail
     exact⟨rfl,zb.refl _ _⟩
    ·have d18:x 18=_:=hd 18 (by kernel_rfl)
     have htI:=Gn.o
     go_wp2_with fail
     exact⟨congrArg (Value.int .i64) Gv.o,zb.refl _ _⟩
    ·have d19:x 19=_:=hd 19 (by kernel_rfl)
     have hmI:=Gj.o
     go_wp2_with fail
     exact⟨rfl,zb.refl _ _⟩
    ·have d17:x 17=_:=hd 17 (by kernel_rfl)
     have d20:x 20=_:=hd 20 (by kernel_rfl)
     have hmI:=Gj.o
     go_wp2_with fail
     exact⟨rfl,zb.refl _ _⟩
    ·have d21:x 21=_:=hd 21 (by kernel_rfl)
     have q:=hkw.cell (Ms.o) (by simp)
     go_wp2_with fail
     exact⟨rfl,zb.refl _ _⟩
    ·have d22:x 22=_:=hd 22 (by kernel_rfl)
     have hy:=Mw.o
     go_wp2_with fail
     exact⟨rfl,zb.refl _ _⟩
    ·have d23:x 23=_:=hd 23 (by kernel_rfl)
     go_wp2_with fail
     exact⟨rfl,zb.refl _ _⟩
    ·have d16:x 16=_:=hd 16 (by kernel_rfl)
     have d24:x 24=_:=hd 24 (by kernel_rfl)
     go_wp2_with fail
     exact⟨rfl,zb.refl _ _⟩
    ·go_wp2_with fail
     exact⟨rfl,zb.refl _ _⟩
    ·go_wp2_with fail
     exact⟨rfl,zb.refl _ _⟩
    ·have d27:x 27=_:=hd 27 (by kernel_rfl)
     have htI:=Gn.o
     go_wp2_with fail
     exact⟨congrArg (Value.int .i64) Gv.o,zb.refl _ _⟩
    ·have d28:x 28=_:=hd 28 (by kernel_rfl)
     have hmI:=Gj.o
     go_wp2_with fail
     exact⟨rfl,zb.refl _ _⟩
    ·have d26:x 26=_:=hd 26 (by kernel_rfl)
     have d29:x 29=_:=hd 29 (by kernel_rfl)
     have hmI:=Gj.o
     go_wp2_with fail
     exact⟨rfl,zb.refl _ _⟩
    ·have d30:x 30=_:=hd 30 (by kernel_rfl)
     have q:=hkw.cell (Mt.o) (by simp)
     go_wp2_with fail
     exact⟨rfl,zb.refl _ _⟩
    ·have d31:x 31=_:=hd 31 (by kernel_rfl)
     have hy:=Mx.o
     go_wp2_with fail
     exact⟨rfl,zb.refl _ _⟩
    ·have d25:x 25=_:=hd 25 (by kernel_rfl)
     have d32:x 32=_:=hd 32 (by kernel_rfl)
     go_wp2_with fail
     exact⟨rfl,zb.refl _ _⟩
   ·intro x w7 hkw b7 hd hwin
    have d0:x 0=_:=hd 0 (by decide)
    have d33:x 33=_:=hd 33 (by decide)
    have Ge:=qI hkw
    have Gk:=qI (Jt.o.kept hkw (by simp))
    clear hd hwin hkw
    rw [← Jl.o] at d33
    have Jm:=qI (Gk.o.store ac)
    have q1:w7.cell? ⟨wb,t,none⟩=some (.int .u32 0):=by
     have h9:=Gk.o.cell (j:=t) (by rw [List.length_append,zS];simp)
     rw [h9]
     simp [List.getD_eq_getElem?_getD,zS]
    have z1:w7.frozen? ⟨wb,t,none⟩=false:=Gk.o.free
    change wpList _ _ _ [_,_] _ _
    go_wp2_with fail
    case roundEnd=>
     refine⟨⟨t + 1,by go_num,by have:=Gb.o;omega,(Gm.o.then Ge.o).trans' ((zb.refl [wb] w7).setCell (.inl (by simp)) _),?_⟩,by have:=Gb.o;simp [intOf];omega⟩
     have h9:=Jm.o
     rw [zS] at h9
     rw [Mp.o,show 64 - (t + 1)=63 - t by omega]
     exact h9
  ·obtain⟨q,rfl⟩:∃ q,t=q + 16:=⟨t - 16,by omega⟩
   have h16I:¬ ((q:Int) + 16 < 16):=by omega
   have h16N:¬ (q + 16 < 16):=h16
   have Gc:Hid (0≤(q:Int)∧(q:Int) < 48):=qI ⟨by omega,by omega⟩
   obtain⟨A,Bv,C,D,Gu,My,Mz,Jn,Jo⟩:∃ A Bv C D:Int,Hid (yp l (q + 16 + 1)=yp l (q + 16) ++ [((((((C + (bits .xor .u32 (bits .xor .u32 (yj 33554432 128 A) (yj 16384 262144 A)) (A / 8))) % 4294967296) + D) % 4294967296) + (bits .xor .u32 (bits .xor .u32 (yj 32768 131072 Bv) (yj 8192 524288 Bv)) (Bv / 1024))) % 4294967296)])∧Hid (wr.cell? ⟨wb,q + 1,none⟩=some (.int .u32 A))∧Hid (wr.cell? ⟨wb,q + 14,none⟩=some (.int .u32 Bv))∧Hid (wr.cell? ⟨wb,q,none⟩=some (.int .u32 C))∧Hid (wr.cell? ⟨wb,q + 9,none⟩=some (.int .u32 D)):=by
    obtain⟨A,hA⟩:∃ A,A=(yp l (q + 16)).getD (q + 1) 0:=⟨_,rfl⟩
    obtain⟨B,hB⟩:∃ B,B=(yp l (q + 16)).getD (q + 14) 0:=⟨_,rfl⟩
    obtain⟨C,hC⟩:∃ C,C=(yp l (q + 16)).getD q 0:=⟨_,rfl⟩
    obtain⟨D,hD⟩:∃ D,D=(yp l (q + 16)).getD (q + 9) 0:=⟨_,rfl⟩
    have hwd:=Gy.o
    refine⟨A,B,C,D,qI ?_,qI (by rw [hA];exact hwd.cell (by rw [zS];omega)),qI (by rw [hB];exact hwd.cell (by rw [zS];omega)),qI (by rw [hC];exact hwd.cell (by rw [zS];omega)),qI (by rw [hD];exact hwd.cell (by rw [zS];omega))⟩
    have h1:yp l (q + 16 + 1)=yp l (q + 16) ++ [(C + s0W A + D + s1W B) % 4294967296]:=by
     show yp l (q + 16) ++ [if q + 16 < 16 then _ else _]=_
     rw [if_neg (by omega)]
     unfold nextW
     rw [zS,hA,hB,hC,hD,show q + 16 - 16=q by omega,show q + 16 - 15=q + 1 by omega,show q + 16 - 7=q + 9 by omega,show q + 16 - 2=q + 14 by omega]
    rw [h1,sum_four]
    rfl
   have hcast:((q + 16:Nat):Int)=(q:Int) + 16:=by omega
   have E0:=zx My.o
   have E1:=zx Mz.o
   have hw1:IntKind.i64.wrap ((q:Int) + 16 - 15)=q + 1:=by have:=Gc.o;rw [IntKind.wrap_i64];omega
   have hw14:IntKind.i64.wrap ((q:Int) + 16 - 2)=q + 14:=by have:=Gc.o;rw [IntKind.wrap_i64];omega
   clear h16 hlt
   go_upto_region 9 with fail
   have hqI:(q:Int) + 16 < 64:=by omega
   have hq0:(0:Int)≤q:=by omega
   have hq64:(q:Int) < 64:=by omega
   refine yo wr (by kernel_rfl) (by kernel_rfl) (zb.refl _ _) ?_
   repeat go_big_quiet_step (fail)
   refine wpQuiet_nil ?_
   intro w2 hk2
   have Gg:=qI hk2
   clear E0 E1 hk2 hw1 hw14
   have Jn:=qI (Gg.o.cell Jn.o (by simp))
   have Jo:=qI (Gg.o.cell Jo.o (by simp))
   go_upto_region 10 with fail
   have Ju:Hid (IntKind.i64.wrap (q:Int)=q∧IntKind.i64.wrap ((q:Int) + 16 - 7)=q + 9):=qI ⟨by have:=Gc.o;rw [IntKind.wrap_i64];omega,by have:=Gc.o;rw [IntKind.wrap_i64];omega⟩
   clear hqI hq0 hq64 h16I
   refine zZ (n:=198) 28 [zg.is (.int .i64 (q + 16)),
    zg.is (.int .i64 (q + 16)),
    zg.is (.int .i64 q),
    zg.is (.pointer (some ⟨wb,q,none⟩)),
    zg.is (.int .u32 C),
    zg.is (.int .u32 A),
    zg.is (.int .u32 (yj 33554432 128 A)),
    zg.is (.int .u32 A),
    zg.is (.int .u32 (yj 16384 262144 A)),
    zg.is (.int .u32 (bits .xor .u32 (yj 33554432 128 A) (yj 16384 262144 A))),
    zg.is (.int .u32 A),
    zg.is (.int .u32 (A / 8)),
    zg.is (.int .u32 (bits .xor .u32 (bits .xor .u32 (yj 33554432 128 A) (yj 16384 262144 A)) (A / 8))),
    zg.is (.int .u32 ((C + (bits .xor .u32 (bits .xor .u32 (yj 33554432 128 A) (yj 16384 262144 A)) (A / 8))) % 4294967296)),
    zg.is (.int .i64 (q + 16)),
    zg.is (.int .i64 (q + 9)),
    zg.is (.pointer (some ⟨wb,q + 9,none⟩)),
    zg.is (.int .u32 D),
    zg.is (.int .u32 ((((C + (bits .xor .u32 (bits .xor .u32 (yj 33554432 128 A) (yj 16384 262144 A)) (A / 8))) % 4294967296) + D) % 4294967296)),
    zg.is (.int .u32 Bv),
    zg.is (.int .u32 (yj 32768 131072 Bv)),
    zg.is (.int .u32 Bv),
    zg.is (.int .u32 (yj 8192 524288 Bv)),
    zg.is (.int .u32 (bits .xor .u32 (yj 32768 131072 Bv) (yj 8192 524288 Bv))),
    zg.is (.int .u32 Bv),
    zg.is (.int .u32 (Bv / 1024)),
    zg.is (.int .u32 (bits .xor .u32 (bits .xor .u32 (yj 32768 131072 Bv) (yj 8192 524288 Bv)) (Bv / 1024))),
    zg.is (.int .u32 ((((((C + (bits .xor .u32 (bits .xor .u32 (yj 33554432 128 A) (yj 16384 262144 A)) (A / 8))) % 4294967296) + D) % 4294967296) + (bits .xor .u32 (bits .xor .u32 (yj 32768 131072 Bv) (yj 8192 524288 Bv)) (Bv / 1024))) % 4294967296))] (by kernel_rfl) rfl (by kernel_rfl) (fun x=>by simp only [List.map,yM,Act.put,List.setIfInBounds_toArray,List.set_cons_zero,List.set_cons_succ];rfl) ?_ ?_
   ·refine⟨fun x w2 hkw b hd=>?_,fun x w2 hkw b hd=>?_,fun x w2 hkw b hd=>?_,fun x w2 hkw b hd=>?_,fun x w2 hkw b hd=>?_,fun x w2 hkw b hd=>?_,fun x w2 hkw b hd=>?_,fun x w2 hkw b hd=>?_,fun x w2 hkw b hd=>?_,fun x w2 hkw b hd=>?_,fun x w2 hkw b hd=>?_,fun x w2 hkw b hd=>?_,fun x w2 hkw b hd=>?_,fun x w2 hkw b hd=>?_,fun x w2 hkw b hd=>?_,fun x w2 hkw b hd=>?_,fun x w2 hkw b hd=>?_,fun x w2 hkw b hd=>?_,fun x w2 hkw b hd=>?_,fun x w2 hkw b hd=>?_,fun x w2 hkw b hd=>?_,fun x w2 hkw b hd=>?_,fun x w2 hkw b hd=>?_,fun x w2 hkw b hd=>?_,fun x w2 hkw b hd=>?_,fun x w2 hkw b hd=>?_,fun x w2 hkw b hd=>?_,fun x w2 hkw b hd=>?_,trivial⟩
    ·go_wp2_with fail
     exact⟨rfl,zb.refl _ _⟩
    ·go_wp2_with fail
     exact⟨rfl,zb.refl _ _⟩
    ·have d1:x 1=_:=hd 1 (by kernel_rfl)
     have hw0:=Ju.o.1
     go_wp2_with fail
     exact⟨rfl,zb.refl _ _⟩
    ·have d2:x 2=_:=hd 2 (by kernel_rfl)
     have hq0:=Gc.o.1
     have hq64:(q:Int) < 64:=by have:=Gc.o.2;omega
     have hq9:(0:Int)≤q + 9:=by omega
     have hq94:(q:Int) + 9 < 64:=by have:=Gc.o.2;omega
     have hqn:((q:Int) + 9).toNat=q + 9:=by omega
     go_wp2_with fail
     exact⟨rfl,zb.refl _ _⟩
    ·have d3:x 3=_:=hd 3 (by kernel_rfl)
     have q0:=hkw.cell Jn.o (by simp)
     go_wp2_with fail
     exact⟨rfl,zb.refl _ _⟩
    ·go_wp2_with fail
     exact⟨rfl,zb.refl _ _⟩
    ·have d5:x 5=_:=hd 5 (by kernel_rfl)
     have CX:=qJ A 7 33554432 128 (by unfold xP;decide) w2
     go_wp2_with (go_at_call 120;refine CX.mono ?_;rintro e w5 ⟨rfl,rfl⟩)
     exact⟨rfl,zb.refl _ _⟩
    ·go_wp2_with fail
     exact⟨rfl,zb.refl _ _⟩
    ·have d7:x 7=_:=hd 7 (by kernel_rfl)
     have CX:=qJ A 18 16384 262144 (by unfold xP;decide) w2
     go_wp2_with (go_at_call 120;refine CX.mono ?_;rintro e w5 ⟨rfl,rfl⟩)
     exact⟨rfl,zb.refl _ _⟩
    ·have d6:x 6=_:=hd 6 (by kernel_rfl)
     have d8:x 8=_:=hd 8 (by kernel_rfl)
     go_wp2_with fail
     exact⟨rfl,zb.refl _ _⟩
    ·go_wp2_with fail
     exact⟨rfl,zb.refl _ _⟩
    ·have d10:x 10=_:=hd 10 (by kernel_rfl)
     go_wp2_with fail
     exact⟨rfl,zb.refl _ _⟩
    ·have d9:x 9=_:=hd 9 (by kernel_rfl)
     have d11:x 11=_:=hd 11 (by kernel_rfl)
     go_wp2_with fail
     exact⟨rfl,zb.refl _ _⟩
    ·have d4:x 4=_:=hd 4 (by kernel_rfl)
     have d12:x 12=_:=hd 12 (by kernel_rfl)
     go_wp2_with fail
     exact⟨rfl,zb.refl _ _⟩
    ·go_wp2_with fail
     exact⟨rfl,zb.refl _ _⟩
    ·have d14:x 14=_:=hd 14 (by kernel_rfl)
     have hw7:=Ju.o.2
     go_wp2_with fail
     exact⟨rfl,zb.refl _ _⟩
    ·have d15:x 15=_:=hd 15 (by kernel_rfl)
     have hq0:=Gc.o.1
     have hq64:(q:Int) < 64:=by have:=Gc.o.2;omega
     have hq9:(0:Int)≤q + 9:=by omega
     have hq94:(q:Int) + 9 < 64:=by have:=Gc.o.2;omega
     have hqn:((q:Int) + 9).toNat=q + 9:=by omega
     go_wp2_with fail
     exact⟨rfl,zb.refl _ _⟩
    ·have d16:x 16=_:=hd 16 (by kernel_rfl)
     have q0:=hkw.cell Jo.o (by simp)
     go_wp2_with fail
     exact⟨rfl,zb.refl _ _⟩
    ·have d13:x 13=_:=hd 13 (by kernel_rfl)
     have d17:x 17=_:=hd 17 (by kernel_rfl)
     go_wp2_with fail
     exact⟨rfl,zb.refl _ _⟩
    ·go_wp2_with fail
     exact⟨rfl,zb.refl _ _⟩
    ·have d19:x 19=_:=hd 19 (by kernel_rfl)
     have CX:=qJ Bv 17 32768 131072 (by unfold xP;decide) w2
     go_wp2_with (go_at_call 120;refine CX.mono ?_;rintro e w5 ⟨rfl,rfl⟩)
     exact⟨rfl,zb.refl _ _⟩
    ·go_wp2_with fail
     exact⟨rfl,zb.refl _ _⟩
    ·have d21:x 21=_:=hd 21 (by kernel_rfl)
     have CX:=qJ Bv 19 8192 524288 (by unfold xP;decide) w2
     go_wp2_with (go_at_call 120;refine CX.mono ?_;rintro e w5 ⟨rfl,rfl⟩)
     exact⟨rfl,zb.refl _ _⟩
    ·have d20:x 20=_:=hd 20 (by kernel_rfl)
     have d22:x 22=_:=hd 22 (by kernel_rfl)
     go_wp2_with fail
     exact⟨rfl,zb.refl _ _⟩
    ·go_wp2_with fail
     exact⟨rfl,zb.refl _ _⟩
    ·have d24:x 24=_:=hd 24 (by kernel_rfl)
     go_wp2_with fail
     exact⟨rfl,zb.refl _ _⟩
    ·have d23:x 23=_:=hd 23 (by kernel_rfl)
     have d25:x 25=_:=hd 25 (by kernel_rfl)
     go_wp2_with fail
     exact⟨rfl,zb.refl _ _⟩
    ·have d18:x 18=_:=hd 18 (by kernel_rfl)
     have d26:x 26=_:=hd 26 (by kernel_rfl)
     go_wp2_with fail
     exact⟨rfl,zb.refl _ _⟩
   ·intro x w7 hkw b7 hd hwin
    have d0:x 0=_:=hd 0 (by decide)
    have d27:x 27=_:=hd 27 (by decide)
    have Ge:=qI (Gg.o.then hkw)
    have Gk:=qI (Jt.o.kept Ge.o (by simp))
    clear hd hwin hkw
    obtain⟨ac,Ya⟩:∃ ac,Hid (ac=((((((C + (bits .xor .u32 (bits .xor .u32 (yj 33554432 128 A) (yj 16384 262144 A)) (A / 8))) % 4294967296) + D) % 4294967296) + (bits .xor .u32 (bits .xor .u32 (yj 32768 131072 Bv) (yj 8192 524288 Bv)) (Bv / 1024))) % 4294967296)):=⟨_,qI rfl⟩
    rw [← Ya.o] at d27 Gu
    have Jm:=qI (Gk.o.store ac)
    have q1:w7.cell? ⟨wb,q + 16,none⟩=some (.int .u32 0):=by
     have h9:=Gk.o.cell (j:=q + 16) (by rw [List.length_append,zS];simp)
     rw [h9]
     simp [List.getD_eq_getElem?_getD,zS]
    have z1:w7.frozen? ⟨wb,q + 16,none⟩=false:=Gk.o.free
    have hqI:=Gc.o.2
    have hq0:=Gc.o.1
    change wpList _ _ _ [_,_] _ _
    have hq16:(0:Int)≤q + 16:=by omega
    have hqI:(q:Int) + 16 < 64:=by omega
    have hqn16:((q:Int) + 16).toNat=q + 16:=by omega
    go_wp2_with fail
    case roundEnd=>
     refine⟨⟨q + 16 + 1,by go_num,by have:=Gb.o;omega,(Gm.o.then Ge.o).trans' ((zb.refl [wb] w7).setCell (.inl (by simp)) _),?_⟩,by have:=Gb.o;simp [intOf];omega⟩
     have h9:=Jm.o
     rw [zS] at h9
     rw [Gu.o,show 64 - (q + 16 + 1)=63 - (q + 16) by omega]
     exact h9
end Go.Proofs.YtibnfbglanpoiaaGreatDoor

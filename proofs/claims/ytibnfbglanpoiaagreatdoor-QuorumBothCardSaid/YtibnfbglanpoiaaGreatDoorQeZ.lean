/- Parts of one proof, merged: XCI. -/
import Derived.Test.YtibnfbglanpoiaaGreatDoorQeY
import Derived.Test.YtibnfbglanpoiaaGreatDoorQeQ
set_option linter.all false
set_option maxHeartbeats 12800000
set_option maxRecDepth 10000
namespace Go.Proofs.YtibnfbglanpoiaaGreatDoor
open Go.Proofs.Tryz
open Go.RowKit
theorem lamSign_any {w:World}{a:Option Addr}{c:Nat}{seed:List UInt8}(hb:zp w (.slice a seed.length c) seed) (hs:seed.length≤64) (leaf:Nat) (hl:leaf≤1000) {am:Option Addr}{cm:Nat}{m:List UInt8}(hbm:zp w (.slice am m.length cm) m) (hm:m.length≤1048576) (hks:xN w) :
  Calls Tryz.prog 109 #[.slice a seed.length c,.int .i64 leaf,.int .i64 8,.slice am m.length cm] w fun e w'=>(∃ a1 c1 a2 c2,e = .returned (.tuple #[.agg #[.slice a1 8 c1,.slice a2 8 c2],.int .i64 0])∧Slc w' 32 (.slice a1 8 c1) 8 ((jA seed leaf 8 m).rev.flatten.map bv)∧Slc w' 32 (.slice a2 8 c2) 8 ((jA seed leaf 8 m).oth.flatten.map bv))∧zb [] w w':=by
 obtain⟨W1,Gl⟩:∃ W1,Hid (W1=w.alloc (.cells #[.slice none 0 0,.slice none 0 0] 80)):=⟨_,qI rfl⟩
 have Gc:Hid (zb [] w W1):=qI (kA1 Gl.o)
 have Gw:Hid (W1.heap[w.heap.size]? = some (.cells #[.slice none 0 0,.slice none 0 0] 80 (0,0))):=qI (by rw [Gl.o];exact zd rfl)
 have CM:Hid (Calls Tryz.prog 68 #[.int .i64 8] W1 fun e w'=>e = .returned (.bool true)∧W1=w'):=qI (jU 8 Wo Wo W1)
 have CK:=qI (JF (w:=W1) (a:=a) (c:=c) hs leaf Ws)
 have CO:=qI (lamOf_any (hbm.kept0 Gc.o) hm (hks.kept0 Gc.o))
 have HS:=qI hs
 have HB:=qI (hb.kept0 Gc.o)
 have Gx:=qI (hks.kept0 Gc.o)
 have Jc:=qI hl
 have hmI:(m.length:Int)≤1048576:=Ws
 have CS:Hid (∀ (w3:World) (b side:Nat),zb [] W1 w3→b<8→side<2→Calls Tryz.prog 72 #[.slice a seed.length c,.int .i64 leaf,.int .i64 b,.int .i64 side] w3 fun e w'=>e = .returned (.agg ((zZ seed leaf b side).map bv).toArray)∧zb [] w3 w'):=qI (fun w3 b side hk h1 h2=>JL (HB.o.kept0 hk) HS.o leaf b side (by have:=Jc.o;omega) Ws Ws (Gx.o.kept0 hk))
 have CDG:Hid (∀ (w3:World) (b:Nat),b<8→Calls Tryz.prog 148 #[.agg ((kh m).map bv).toArray,.int .i64 b] w3 fun e w'=>e = .returned (.int .i64 (yT (kh m) b))∧zb [] w3 w'):=qI (fun w3 b h=>QR w3 (kh m) (Y4 m) b Ws)
 have Gd:Hid (∀ k,((List.range (k+1)).map (revL seed leaf m))=(List.range k).map (revL seed leaf m)++[zZ seed leaf k (yT (kh m) k)]):=qI (fun k=>by rw [List.range_succ,List.map_append];rfl)
 have Ge:Hid (∀ k,((List.range (k+1)).map (othL seed leaf m))=(List.range k).map (othL seed leaf m)++[zV (zZ seed leaf k (1-yT (kh m) k))]):=qI (fun k=>by rw [List.range_succ,List.map_append];rfl)
 have Gf:Hid (∀ k,yT (kh m) k<2):=qI (fun k=>ZW _ _)
 have Gy:Hid ((jA seed leaf 8 m).rev=(List.range 8).map (revL seed leaf m)∧(jA seed leaf 8 m).oth=(List.range 8).map (othL seed leaf m)):=qI ⟨rfl,rfl⟩
 clear hb hs hl hbm hm hks
 generalize hsn:seed.length=sn at CK CS
 generalize hmn:m.length=mn at CO hmI
 generalize kh m=md at CO CDG Gd Ge Gf
 go_enter func109,ntmps109
 go_upto_region 1 with fail
 rw [← Gl.o]
 go_wp2_with first
  | (go_at_call 68;refine CM.o.mono ?_;rintro e w' ⟨rfl,rfl⟩)
  | (go_at_call 69;refine CK.o.mono ?_;rintro e w' ⟨rfl,rfl⟩)
  | (go_at_call 147;refine CO.o.mh ?_;rintro e w2 rfl Gg)
 obtain⟨W3,Gz⟩:∃ W3,Hid (W3=w2.alloc (.cells #[.slice none 0 0,.slice none 0 0] 80)):=⟨_,qI rfl⟩
 have Ja:Hid (qW w2 w2.heap.size W3 none 0 none 0 [] []):=qI (by rw [Gz.o];exact out_new w2)
 rw [← Gz.o]
 generalize hgb:w2.heap.size=gb at Ja
 have Jg:=qI hgb
 clear hgb
 go_loopw [12,33] (fun _ i wr=>∃ (k:Nat) (a1 a2:Option Addr) (c1 c2:Nat),i = .int .i64 k∧k≤8∧qW w2 gb wr a1 c1 a2 c2 ((List.range k).map (revL seed leaf m)) ((List.range k).map (othL seed leaf m))) (fun _ i _=>8-(intOf i).toNat)
 case atStart=>exact⟨0,none,none,0,0,rfl,Nat.zero_le _,Ja.o⟩
 case round=>
  obtain⟨k,a1,a2,c1,c2,rfl,hk,hoa⟩:=hrel
  have Gb:=qI hoa
  have hl1:Hid (((List.range k).map (revL seed leaf m)).length=k):=qI Wz
  have hl2:Hid (((List.range k).map (othL seed leaf m)).length=k):=qI Wz
  rcases Nat.lt_or_ge k 8 with h8 | h8
  ·have h8I:(k:Int)<8:=by omega
   have Jd:Hid (zb [] W1 wr):=qI (Gg.o.then hoa.kept)
   have Gm:=qI (Gd.o k)
   have Gn:=qI (Ge.o k)
   have CD:Hid (∀ w3,Calls Tryz.prog 148 #[.agg (md.map bv).toArray,.int .i64 k] w3 fun e w'=>e = .returned (.int .i64 (yT md k))∧zb [] w3 w'):=qI (fun w3=>CDG.o w3 k h8)
   have Gi:=qI (Gf.o k)
   have CS1:Hid (Cq wr 72 #[.slice a sn c,.int .i64 leaf,.int .i64 k,.int .i64 (yT md k)] (.agg ((zZ seed leaf k (yT md k)).map bv).toArray)):=qI (fun w3 hk3=>CS.o w3 k _ (Jd.o.then hk3) h8 Gi.o)
   have CS2':Hid (Cq W1 72 #[.slice a sn c,.int .i64 leaf,.int .i64 k,.int .i64 (1-(yT md k:Int))] (.agg ((zZ seed leaf k (1-yT md k)).map bv).toArray)):=qI (fun w3 hk3=>by
    have h1:=CS.o w3 k (1-yT md k) hk3 h8 Ws
    have h2:((1-yT md k:Nat):Int)=1-(yT md k:Int):=by have:=Gi.o;omega
    rw [h2] at h1
    exact h1)
   have Gp:Hid ((zZ seed leaf k (yT md k)).length=32):=qI (jY _ _ _ _)
   have Je:Hid ((zZ seed leaf k (1-yT md k)).length=32):=qI (jY _ _ _ _)
   have Gq:Hid ((zV (zZ seed leaf k (1-yT md k))).length=32):=qI (yt _)
   have CU':Hid (Cq W1 71 #[.agg ((zZ seed leaf k (1-yT md k)).map bv).toArray] (.agg ((zV (zZ seed leaf k (1-yT md k))).map bv).toArray)):=qI (fun w3 hk3=>bU w3 _ (jY _ _ _ _) (Gx.o.kept0 hk3))
   generalize zV (zZ seed leaf k (1-yT md k))=x3 at CU' Gq Gn
   generalize zZ seed leaf k (1-yT md k)=x2 at CS2' CU' Je
   generalize zZ seed leaf k (yT md k)=x1 at CS1 Gp Gm
   generalize yT md k=sd at CD Gi CS1 CS2'
   generalize (List.range k).map (revL seed leaf m)=rv at Gb hl1 Gm
   generalize (List.range k).map (othL seed leaf m)=ot at Gb hl2 Gn
   have f0:=za (o:=0) Gb.o.box rfl
   rw [hl1.o] at f0
   clear hoa
   go_upto_region 10 with fail
   refine zK (n:=64) 10 [fI (.pointer (some ⟨gb,0,none⟩)),
    fI (.slice a1 k c1),
    fI (.slice a sn c),
    fI (.int .i64 leaf),
    fI (.int .i64 k),
    fI (.func (.func 148) #[.agg (md.map bv).toArray] #[]),
    fI (.int .i64 k),
    fI (.int .i64 sd),
    fI (.agg (x1.map bv).toArray),
    xD (x1.map bv) 1 32] Wr rfl Wr (fun x=>yH) ?_ ?_
   ·refine⟨?_,?_,?_,?_,?_,?_,?_,?_,?_,?_,trivial⟩ <;> intro x w2 hkw b hd
    ·exact ze
    ·have d0:x 0=_:=hd 0 Wr
     have y0:=hkw.cell f0 Wz
     exact ze
    ·exact ze
    ·exact ze
    ·exact ze
    ·exact ze
    ·exact ze
    ·have d5:x 5=_:=hd 5 Wr
     have d6:x 6=_:=hd 6 Wr
     have CX:=CD.o w2
     go_wp2_with (go_at_call 148;refine CX.mh ?_;rintro e w5 rfl Ga)
     exact⟨rfl,Ga.o⟩
    ·have d2:x 2=_:=hd 2 Wr
     have d3:x 3=_:=hd 3 Wr
     have d4:x 4=_:=hd 4 Wr
     have d7:x 7=_:=hd 7 Wr
     have CX:=CS1.o w2 hkw
     go_wp2_with (go_at_call 72;refine CX.mh ?_;rintro e w5 rfl Ga)
     exact⟨rfl,Ga.o⟩
    ·have d8:x 8=_:=hd 8 Wr
     change wpList _ _ _ [_] _ _
     refine yB underlying73 xU jx Wo Wo Wk _ rfl (cs:=x1.map bv) (by simp [Gp.o]) d8 ?_
     exact⟨rfl,_,rfl,⟨w2.heap.size,rfl,Nat.le_refl _,Wz,zT w2 (x1.map bv) 32 1 _ _ rfl (by simp [Gp.o]) Wo⟩,Wd.alloc _⟩
   ·intro x w7 hkw b7 hd hwin
    have d1:x 1=_:=hd 1 Wo
    obtain⟨g9,d9,-,-,hsl⟩:=hd 9 Wo
    have Gr:=qI hsl
    have Gs:=qI (Gb.o.kept0 hkw)
    have Jf:=qI hkw
    clear hd hwin hkw hsl
    change wpList _ _ _ [_,_,_] _ _
    go_wp2_with (at_builtin;refine zk YE (v:=.slice a1 k c1) (n:=k) (xs:=rv.flatten.map bv) (by have h9:=Gs.o.rev;rw [hl1.o] at h9;exact h9) Gr.o (yL _) (by simp only [maxLen];omega) Ws Gs.o.kept.size rfl _ _ rfl d1 d9 ?_;intro v5 w8 hown hk5 _ hb5;obtain⟨a5,c5,rfl,-,-⟩:=(Slc.of_row hown).form;obtain⟨u0,uf,ho8⟩:=Gs.o.push0 (x:=x1) (a5:=a5) (c5:=c5) (by rw [hl1.o];exact hown) (by rw [hl1.o];exact hk5) (by rw [hl1.o];exact hb5);rw [hl1.o] at u0 ho8;rw [← Gm.o] at ho8;have Gj:=qI ho8;clear hown hk5 hb5 ho8)
    generalize w8.setCell ⟨gb,0,none⟩ (.slice a5 (k+1) c5)=w9 at Gj
    have Jb:Hid (zb [] W1 w9):=qI (Gg.o.then Gj.o.kept)
    have CS2:Hid (∀ w3,zb [] W1 w3→_):=CS2'
    have CU:Hid (∀ w3,zb [] W1 w3→_):=CU'
    have f1:=za (o:=1) Gj.o.box rfl
    rw [hl2.o] at f1
    clear u0 uf
    go_upto_region 11 with fail
    refine zK (n:=64) 12 [fI (.pointer (some ⟨gb,1,none⟩)),
     fI (.slice a2 k c2),
     fI (.slice a sn c),
     fI (.int .i64 leaf),
     fI (.int .i64 k),
     fI (.func (.func 148) #[.agg (md.map bv).toArray] #[]),
     fI (.int .i64 k),
     fI (.int .i64 sd),
     fI (.int .i64 (1-(sd:Int))),
     fI (.agg (x2.map bv).toArray),
     fI (.agg (x3.map bv).toArray),
     xD (x3.map bv) 1 32] Wr rfl Wr (fun x=>yH) ?_ ?_
    ·refine⟨?_,?_,?_,?_,?_,?_,?_,?_,?_,?_,?_,?_,trivial⟩ <;> intro x w2 hkw b hd
     ·exact ze
     ·have d0:x 0=_:=hd 0 Wr
      have y0:=hkw.cell f1 Wz
      exact ze
     ·exact ze
     ·exact ze
     ·exact ze
     ·exact ze
     ·exact ze
     ·have d5:x 5=_:=hd 5 Wr
      have d6:x 6=_:=hd 6 Wr
      have CX:=CD.o w2
      go_wp2_with (go_at_call 148;refine CX.mh ?_;rintro e w5 rfl Ga)
      exact⟨rfl,Ga.o⟩
     ·have d7:x 7=_:=hd 7 Wr
      have h2:=Gi.o
      have hw:wrap64 (1-(sd:Int))=1-(sd:Int):=by unfold wrap64;omega
      exact ze
     ·have d2:x 2=_:=hd 2 Wr
      have d3:x 3=_:=hd 3 Wr
      have d4:x 4=_:=hd 4 Wr
      have d8:x 8=_:=hd 8 Wr
      have CX:=CS2.o w2 (Jb.o.then hkw)
      go_wp2_with (go_at_call 72;refine CX.mh ?_;rintro e w5 rfl Ga)
      exact⟨rfl,Ga.o⟩
     ·have d9:x 9=_:=hd 9 Wr
      have CX:=CU.o w2 (Jb.o.then hkw)
      go_wp2_with (go_at_call 71;refine CX.mh ?_;rintro e w5 rfl Ga)
      exact⟨rfl,Ga.o⟩
     ·have d10:x 10=_:=hd 10 Wr
      change wpList _ _ _ [_] _ _
      refine yB underlying73 xU jx Wo Wo Wk _ rfl (cs:=x3.map bv) (by simp [Gq.o]) d10 ?_
      exact⟨rfl,_,rfl,⟨w2.heap.size,rfl,Nat.le_refl _,Wz,zT w2 (x3.map bv) 32 1 _ _ rfl (by simp [Gq.o]) Wo⟩,Wd.alloc _⟩
    ·intro x w12 hkw b12 hd hwin
     have d1:x 1=_:=hd 1 Wo
     obtain⟨g9,d11,-,-,hsl⟩:=hd 11 Wo
     have Gr:=qI hsl
     have Gt:=qI (Gj.o.kept0 hkw)
     clear hd hwin hkw hsl
     change wpList _ _ _ [_,_,_] _ _
     go_wp2_with (at_builtin;refine zk YE (v:=.slice a2 k c2) (n:=k) (xs:=ot.flatten.map bv) (by have h9:=Gt.o.oth;rw [hl2.o] at h9;exact h9) Gr.o (yL _) (by simp only [maxLen];omega) Ws Gt.o.kept.size rfl _ _ rfl d1 d11 ?_;intro v6 w13 hown hk6 _ hb6;obtain⟨a6,c6,rfl,-,-⟩:=(Slc.of_row hown).form;obtain⟨u0,uf,ho13⟩:=Gt.o.push1 (x:=x3) (a5:=a6) (c5:=c6) (by rw [hl2.o];exact hown) (by rw [hl2.o];exact hk6) (by rw [hl2.o];exact hb6);rw [hl2.o] at u0 ho13;rw [← Gn.o] at ho13;have Gu:=qI ho13;clear hown hk6 hb6 ho13)
     case roundEnd=>exact⟨⟨k+1,a5,a6,c5,c6,by go_num,Ws,Gu.o⟩,by simp [intOf];omega⟩
  ·obtain rfl:k=8:=by omega
   have f0:=za (o:=0) hoa.box rfl
   have f1:=za (o:=1) hoa.box rfl
   rw [hl1.o] at f0
   rw [hl2.o] at f1
   have Gk:=qI (hoa.kept.heap (Gg.o.heap Gw.o Wz) Wz)
   have r0:=za (o:=0) Gk.o rfl
   have r1:=za (o:=1) Gk.o rfl
   have z:∀ j,wr.frozen? ⟨w.heap.size,j,none⟩=false:=fun j=>zh Gk.o
   clear hoa
   go_wp2_with fail
   change bodyPost _ _ _ _ _ (put2 wr w.heap.size (.slice a1 8 c1) (.slice a2 8 c2))
   have Gh:=jQ wr w.heap.size (.slice a1 8 c1) (.slice a2 8 c2)
   have Gv:=Kp Gk.o (.slice a1 8 c1) (.slice a2 8 c2)
   have y0:=za (o:=0) Gv rfl
   have y1:=za (o:=1) Gv rfl
   revert Gh y0 y1
   clear Gv
   generalize put2 wr w.heap.size (.slice a1 8 c1) (.slice a2 8 c2)=WF
   intro Gh y0 y1
   refine bodyPost_ret (v:=.tuple #[.agg #[.slice a1 8 c1,.slice a2 8 c2],.int .i64 0]) (by simp [results,results109,go_sem,y0,y1]) rfl ?_
   have hw2:w.heap.size<w2.heap.size:=by have:=Gw.o;have:=lt_of_block this;have:=Gg.o.size;omega
   have e1:=Gb.o.rev
   have e2:=Gb.o.oth
   rw [hl1.o] at e1
   rw [hl2.o] at e2
   refine⟨⟨a1,c1,a2,c2,rfl,?_,?_⟩,(Gc.o.then (Gg.o.then Gb.o.kept)).trans Gh (by intro i hi;simp at hi;subst hi;exact .inr (Nat.le_refl _))⟩
   ·rw [Gy.o.1]
    exact Slc.of_row (zo e1 Gh (fun g hg hx=>by have h3:=(e1.lt g hg).1;simp at hx;omega))
   ·rw [Gy.o.2]
    exact Slc.of_row (zo e2 Gh (fun g hg hx=>by have h3:=(e2.lt g hg).1;simp at hx;omega))
end Go.Proofs.YtibnfbglanpoiaaGreatDoor

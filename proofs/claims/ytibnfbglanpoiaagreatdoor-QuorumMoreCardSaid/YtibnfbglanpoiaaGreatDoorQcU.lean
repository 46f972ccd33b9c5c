/- Parts of one proof, merged: XIJ XCI XCJ. -/
import Derived.Test.YtibnfbglanpoiaaGreatDoorQcR
import Derived.Test.YtibnfbglanpoiaaGreatDoorQcT
set_option linter.all false
set_option maxHeartbeats 12800000
set_option maxRecDepth 10000
set_option linter.unusedVariables false
set_option linter.unusedSimpArgs false
set_option linter.unnecessarySimpa false
namespace Go.Proofs.YtibnfbglanpoiaaGreatDoor
open Go.Proofs.Tryz
open Go.RowKit
def put2 (w:World) (g:Nat) (a b:Value):World:=(w.setCell ⟨g,0,none⟩ a).setCell ⟨g,1,none⟩ b
theorem vg (w:World) (g:Nat) (a b:Value):zb [g] w (put2 w g a b):=((zb.refl [g] w).setCell (.inl (by simp)) _).setCell (.inl (by simp)) _
theorem put2_at {w:World}{g:Nat}{c0 c1:Value}{t:Nat}{f:Nat × Nat}(h:w.heap[g]? = some (.cells #[c0,c1] t f)) (a b:Value):(put2 w g a b).heap[g]? = some (.cells #[a,b] t f):=by
 unfold put2
 have h1:=ze (i:=0) (v:=a) (d:=#[a,c1]) h rfl
 exact ze (i:=1) (v:=b) (d:=#[a,b]) h1 rfl
theorem lamSign_any {w:World}{a:Option Addr}{c:Nat}{seed:List UInt8}(hb:zp w (.slice a seed.length c) seed) (hs:seed.length≤64) (leaf:Nat) (hl:leaf≤1000) {am:Option Addr}{cm:Nat}{m:List UInt8}(hbm:zp w (.slice am m.length cm) m) (hm:m.length≤1048576) (hks:xz w) :
  Calls Tryz.prog 109 #[.slice a seed.length c,.int .i64 leaf,.int .i64 8,.slice am m.length cm] w fun e w'=>(∃ a1 c1 a2 c2,e = .returned (.tuple #[.agg #[.slice a1 8 c1,.slice a2 8 c2],.int .i64 0])∧Slc w' 32 (.slice a1 8 c1) 8 ((jd seed leaf 8 m).rev.flatten.map bv)∧Slc w' 32 (.slice a2 8 c2) 8 ((jd seed leaf 8 m).oth.flatten.map bv))∧zb [] w w':=by
 obtain⟨W1,Gd⟩:∃ W1,Hid (W1=w.alloc (.cells #[.slice none 0 0,.slice none 0 0] 80)):=⟨_,qI rfl⟩
 have Gc:Hid (zb [] w W1):=qI (by rw [Gd.o];exact (zb.refl _ w).alloc _)
 have Gx:Hid (W1.heap[w.heap.size]? = some (.cells #[.slice none 0 0,.slice none 0 0] 80 (0,0))):=qI (by rw [Gd.o];exact zd rfl)
 have CM:Hid (Calls Tryz.prog 68 #[.int .i64 8] W1 fun e w'=>e = .returned (.bool true)∧W1=w'):=qI (jM 8 (by decide) (by decide) W1)
 have CK:=qI (Kg (w:=W1) (a:=a) (c:=c) hs leaf (by omega))
 have CO:=qI (JV (hbm.kept0 Gc.o) hm (hks.kept0 Gc.o))
 have HS:=qI hs
 have HB:=qI (hb.kept0 Gc.o)
 have Gp:=qI (hks.kept0 Gc.o)
 have Mc:=qI hl
 have hmI:(m.length:Int)≤1048576:=by omega
 have CS:Hid (∀ (w3:World) (b side:Nat),zb [] W1 w3→b < 8→side < 2→Calls Tryz.prog 72 #[.slice a seed.length c,.int .i64 leaf,.int .i64 b,.int .i64 side] w3 fun e w'=>e = .returned (.agg ((yy seed leaf b side).map bv).toArray)∧zb [] w3 w'):=qI (fun w3 b side hk h1 h2=>Kv (HB.o.kept0 hk) HS.o leaf b side (by have:=Mc.o;omega) (by omega) (by omega) (Gp.o.kept0 hk))
 have CDG:Hid (∀ (w3:World) (b:Nat),b < 8→Calls Tryz.prog 148 #[.agg ((jm m).map bv).toArray,.int .i64 b] w3 fun e w'=>e = .returned (.int .i64 (yW (jm m) b))∧zb [] w3 w'):=qI (fun w3 b h=>Qk w3 (jm m) (QZ m) b (by omega))
 have Gq:Hid (∀ k,((List.range (k + 1)).map (revL seed leaf m))=(List.range k).map (revL seed leaf m) ++ [yy seed leaf k (yW (jm m) k)]):=qI (fun k=>by rw [List.range_succ,List.map_append];rfl)
 have Gr:Hid (∀ k,((List.range (k + 1)).map (othL seed leaf m))=(List.range k).map (othL seed leaf m) ++ [zY (yy seed leaf k (1 - yW (jm m) k))]):=qI (fun k=>by rw [List.range_succ,List.map_append];rfl)
 have Ge:Hid (∀ k,yW (jm m) k < 2):=qI (fun k=>Y4 _ _)
 have Js:Hid ((jd seed leaf 8 m).rev=(List.range 8).map (revL seed leaf m)∧(jd seed leaf 8 m).oth=(List.range 8).map (othL seed leaf m)):=qI ⟨rfl,rfl⟩
 clear hb hs hl hbm hm hks
 generalize hsn:seed.length=sn at CK CS
 generalize hmn:m.length=mn at CO hmI
 generalize jm m=md at CO CDG Gq Gr Ge
 go_enter func109,ntmps109
 go_upto_region 1 with fail
 rw [← Gd.o]
 go_wp2_with first
  | (go_at_call 68;refine CM.o.mono ?_;rintro e w' ⟨rfl,rfl⟩)
  | (go_at_call 69;refine CK.o.mono ?_;rintro e w' ⟨rfl,rfl⟩)
  | (go_at_call 147;refine CO.o.mono ?_;rintro e w2 ⟨rfl,hk2⟩;have Gi:=qI hk2;clear hk2)
 obtain⟨W3,Jt⟩:∃ W3,Hid (W3=w2.alloc (.cells #[.slice none 0 0,.slice none 0 0] 80)):=⟨_,qI rfl⟩
 have Ju:Hid (kC w2 w2.heap.size W3 none 0 none 0 [] []):=qI (by rw [Jt.o];exact out_new w2)
 rw [← Jt.o]
 generalize hgb:w2.heap.size=gb at Ju
 have Mm:=qI hgb
 clear hgb
 go_loopw [12,33] (fun _ i wr=>∃ (k:Nat) (a1 a2:Option Addr) (c1 c2:Nat),i = .int .i64 k∧k≤8∧kC w2 gb wr a1 c1 a2 c2 ((List.range k).map (revL seed leaf m)) ((List.range k).map (othL seed leaf m))) (fun _ i _=>8 - (intOf i).toNat)
 case atStart=>exact⟨0,none,none,0,0,rfl,Nat.zero_le _,Ju.o⟩
 case round=>
  obtain⟨k,a1,a2,c1,c2,rfl,hk,hoa⟩:=hrel
  have Gj:=qI hoa
  have hl1:Hid (((List.range k).map (revL seed leaf m)).length=k):=qI (by simp)
  have hl2:Hid (((List.range k).map (othL seed leaf m)).length=k):=qI (by simp)
  rcases Nat.lt_or_ge k 8 with h8 | h8
  ·have h8I:(k:Int) < 8:=by omega
   have Gh:Hid (zb [] W1 wr):=qI (Gi.o.then hoa.kept)
   have Jf:=qI (Gq.o k)
   have Jg:=qI (Gr.o k)
   have CD:Hid (∀ w3,Calls Tryz.prog 148 #[.agg (md.map bv).toArray,.int .i64 k] w3 fun e w'=>e = .returned (.int .i64 (yW md k))∧zb [] w3 w'):=qI (fun w3=>CDG.o w3 k h8)
   have Gy:=qI (Ge.o k)
   have CS1:Hid (∀ w3,zb [] wr w3→Calls Tryz.prog 72 #[.slice a sn c,.int .i64 leaf,.int .i64 k,.int .i64 (yW md k)] w3 fun e w'=>e = .returned (.agg ((yy seed leaf k (yW md k)).map bv).toArray)∧zb [] w3 w'):=qI (fun w3 hk3=>CS.o w3 k _ (Gh.o.then hk3) h8 Gy.o)
   have CS2':Hid (∀ w3,zb [] W1 w3→Calls Tryz.prog 72 #[.slice a sn c,.int .i64 leaf,.int .i64 k,.int .i64 (1 - (yW md k:Int))] w3 fun e w'=>e = .returned (.agg ((yy seed leaf k (1 - yW md k)).map bv).toArray)∧zb [] w3 w'):=qI (fun w3 hk3=>by
    have h1:=CS.o w3 k (1 - yW md k) hk3 h8 (by omega)
    have h2:((1 - yW md k:Nat):Int)=1 - (yW md k:Int):=by have:=Gy.o;omega
    rw [h2] at h1
    exact h1)
   have Gg:Hid ((yy seed leaf k (yW md k)).length=32):=qI (jN _ _ _ _)
   have Md:Hid ((yy seed leaf k (1 - yW md k)).length=32):=qI (jN _ _ _ _)
   have Jh:Hid ((zY (yy seed leaf k (1 - yW md k))).length=32):=qI (yn _)
   have CU':Hid (∀ w3,zb [] W1 w3→Calls Tryz.prog 71 #[.agg ((yy seed leaf k (1 - yW md k)).map bv).toArray] w3 fun e w'=>e = .returned (.agg ((zY (yy seed leaf k (1 - yW md k))).map bv).toArray)∧zb [] w3 w'):=qI (fun w3 hk3=>bi w3 _ (jN _ _ _ _) (Gp.o.kept0 hk3))
   generalize zY (yy seed leaf k (1 - yW md k))=x3 at CU' Jh Jg
   generalize yy seed leaf k (1 - yW md k)=x2 at CS2' CU' Md
   generalize yy seed leaf k (yW md k)=x1 at CS1 Gg Jf
   generalize yW md k=sd at CD Gy CS1 CS2'
   generalize (List.range k).map (revL seed leaf m)=rv at Gj hl1 Jf
   generalize (List.range k).map (othL seed leaf m)=ot at Gj hl2 Jg
   have f0:=za (o:=0) Gj.o.box rfl
   rw [hl1.o] at f0
   clear hoa
   go_upto_region 10 with fail
   refine zZ (n:=64) 10 [zg.is (.pointer (some ⟨gb,0,none⟩)),
    zg.is (.slice a1 k c1),
    zg.is (.slice a sn c),
    zg.is (.int .i64 leaf),
    zg.is (.int .i64 k),
    zg.is (.func (.func 148) #[.agg (md.map bv).toArray] #[]),
    zg.is (.int .i64 k),
    zg.is (.int .i64 sd),
    zg.is (.agg (x1.map bv).toArray),
    yU (x1.map bv) 1 32] (by kernel_rfl) rfl (by kernel_rfl) (fun x=>by simp only [List.map,yM,Act.put,List.setIfInBounds_toArray,List.set_cons_zero,List.set_cons_succ];rfl) ?_ ?_
   ·refine⟨fun x w2 hkw b hd=>?_,fun x w2 hkw b hd=>?_,fun x w2 hkw b hd=>?_,fun x w2 hkw b hd=>?_,fun x w2 hkw b hd=>?_,fun x w2 hkw b hd=>?_,fun x w2 hkw b hd=>?_,fun x w2 hkw b hd=>?_,fun x w2 hkw b hd=>?_,fun x w2 hkw b hd=>?_,trivial⟩
    ·go_wp2_with fail
     exact⟨rfl,zb.refl _ _⟩
    ·have d0:x 0=_:=hd 0 (by kernel_rfl)
     have y0:=hkw.cell f0 (by simp)
     go_wp2_with fail
     exact⟨rfl,zb.refl _ _⟩
    ·go_wp2_with fail
     exact⟨rfl,zb.refl _ _⟩
    ·go_wp2_with fail
     exact⟨rfl,zb.refl _ _⟩
    ·go_wp2_with fail
     exact⟨rfl,zb.refl _ _⟩
    ·go_wp2_with fail
     exact⟨rfl,zb.refl _ _⟩
    ·go_wp2_with fail
     exact⟨rfl,zb.refl _ _⟩
    ·have d5:x 5=_:=hd 5 (by kernel_rfl)
     have d6:x 6=_:=hd 6 (by kernel_rfl)
     have CX:=CD.o w2
     go_wp2_with (go_at_call 148;refine CX.mono ?_;rintro e w5 ⟨rfl,hk5⟩;have Ga:=qI hk5;clear hk5)
     exact⟨rfl,Ga.o⟩
    ·have d2:x 2=_:=hd 2 (by kernel_rfl)
     have d3:x 3=_:=hd 3 (by kernel_rfl)
     have d4:x 4=_:=hd 4 (by kernel_rfl)
     have d7:x 7=_:=hd 7 (by kernel_rfl)
     have CX:=CS1.o w2 hkw
     go_wp2_with (go_at_call 72;refine CX.mono ?_;rintro e w5 ⟨rfl,hk5⟩;have Ga:=qI hk5;clear hk5)
     exact⟨rfl,Ga.o⟩
    ·have d8:x 8=_:=hd 8 (by kernel_rfl)
     change wpList _ _ _ [_] _ _
     refine yI underlying73 xX bg (by decide) (by decide) (by rfl) _ rfl (cs:=x1.map bv) (by simp [Gg.o]) d8 ?_
     exact⟨rfl,_,rfl,⟨w2.heap.size,rfl,Nat.le_refl _,by simp,zV w2 (x1.map bv) 32 1 _ _ rfl (by simp [Gg.o]) (by decide)⟩,(zb.refl _ _).alloc _⟩
   ·intro x w7 hkw b7 hd hwin
    have d1:x 1=_:=hd 1 (by decide)
    obtain⟨g9,d9,-,-,hsl⟩:=hd 9 (by decide)
    have Gk:=qI hsl
    have Ji:=qI (Gj.o.kept0 hkw)
    have Me:=qI hkw
    clear hd hwin hkw hsl
    change wpList _ _ _ [_,_,_] _ _
    go_wp2_with (at_builtin;refine zj QG (v:=.slice a1 k c1) (n:=k) (xs:=rv.flatten.map bv) (by have h9:=Ji.o.rev;rw [hl1.o] at h9;exact h9) Gk.o (xu _) (by simp only [maxLen];omega) (by omega) Ji.o.kept.size rfl _ _ rfl d1 d9 ?_;intro v5 w8 hown hk5 _ hb5;obtain⟨a5,c5,rfl,-,-⟩:=(Slc.of_row hown).form;obtain⟨u0,uf,ho8⟩:=Ji.o.push0 (x:=x1) (a5:=a5) (c5:=c5) (by rw [hl1.o];exact hown) (by rw [hl1.o];exact hk5) (by rw [hl1.o];exact hb5);rw [hl1.o] at u0 ho8;rw [← Jf.o] at ho8;have Gz:=qI ho8;clear hown hk5 hb5 ho8)
    generalize w8.setCell ⟨gb,0,none⟩ (.slice a5 (k + 1) c5)=w9 at Gz
    have Jv:Hid (zb [] W1 w9):=qI (Gi.o.then Gz.o.kept)
    have CS2:Hid (∀ w3,zb [] W1 w3→_):=CS2'
    have CU:Hid (∀ w3,zb [] W1 w3→_):=CU'
    have f1:=za (o:=1) Gz.o.box rfl
    rw [hl2.o] at f1
    clear u0 uf
    go_upto_region 11 with fail
    refine zZ (n:=64) 12 [zg.is (.pointer (some ⟨gb,1,none⟩)),
     zg.is (.slice a2 k c2),
     zg.is (.slice a sn c),
     zg.is (.int .i64 leaf),
     zg.is (.int .i64 k),
     zg.is (.func (.func 148) #[.agg (md.map bv).toArray] #[]),
     zg.is (.int .i64 k),
     zg.is (.int .i64 sd),
     zg.is (.int .i64 (1 - (sd:Int))),
     zg.is (.agg (x2.map bv).toArray),
     zg.is (.agg (x3.map bv).toArray),
     yU (x3.map bv) 1 32] (by kernel_rfl) rfl (by kernel_rfl) (fun x=>by simp only [List.map,yM,Act.put,List.setIfInBounds_toArray,List.set_cons_zero,List.set_cons_succ];rfl) ?_ ?_
    ·refine⟨fun x w2 hkw b hd=>?_,fun x w2 hkw b hd=>?_,fun x w2 hkw b hd=>?_,fun x w2 hkw b hd=>?_,fun x w2 hkw b hd=>?_,fun x w2 hkw b hd=>?_,fun x w2 hkw b hd=>?_,fun x w2 hkw b hd=>?_,fun x w2 hkw b hd=>?_,fun x w2 hkw b hd=>?_,fun x w2 hkw b hd=>?_,fun x w2 hkw b hd=>?_,trivial⟩
     ·go_wp2_with fail
      exact⟨rfl,zb.refl _ _⟩
     ·have d0:x 0=_:=hd 0 (by kernel_rfl)
      have y0:=hkw.cell f1 (by simp)
      go_wp2_with fail
      exact⟨rfl,zb.refl _ _⟩
     ·go_wp2_with fail
      exact⟨rfl,zb.refl _ _⟩
     ·go_wp2_with fail
      exact⟨rfl,zb.refl _ _⟩
     ·go_wp2_with fail
      exact⟨rfl,zb.refl _ _⟩
     ·go_wp2_with fail
      exact⟨rfl,zb.refl _ _⟩
     ·go_wp2_with fail
      exact⟨rfl,zb.refl _ _⟩
     ·have d5:x 5=_:=hd 5 (by kernel_rfl)
      have d6:x 6=_:=hd 6 (by kernel_rfl)
      have CX:=CD.o w2
      go_wp2_with (go_at_call 148;refine CX.mono ?_;rintro e w5 ⟨rfl,hk5⟩;have Ga:=qI hk5;clear hk5)
      exact⟨rfl,Ga.o⟩
     ·have d7:x 7=_:=hd 7 (by kernel_rfl)
      have h2:=Gy.o
      have hw:wrap64 (1 - (sd:Int))=1 - (sd:Int):=by unfold wrap64;omega
      go_wp2_with fail
      exact⟨rfl,zb.refl _ _⟩
     ·have d2:x 2=_:=hd 2 (by kernel_rfl)
      have d3:x 3=_:=hd 3 (by kernel_rfl)
      have d4:x 4=_:=hd 4 (by kernel_rfl)
      have d8:x 8=_:=hd 8 (by kernel_rfl)
      have CX:=CS2.o w2 (Jv.o.then hkw)
      go_wp2_with (go_at_call 72;refine CX.mono ?_;rintro e w5 ⟨rfl,hk5⟩;have Ga:=qI hk5;clear hk5)
      exact⟨rfl,Ga.o⟩
     ·have d9:x 9=_:=hd 9 (by kernel_rfl)
      have CX:=CU.o w2 (Jv.o.then hkw)
      go_wp2_with (go_at_call 71;refine CX.mono ?_;rintro e w5 ⟨rfl,hk5⟩;have Ga:=qI hk5;clear hk5)
      exact⟨rfl,Ga.o⟩
     ·have d10:x 10=_:=hd 10 (by kernel_rfl)
      change wpList _ _ _ [_] _ _
      refine yI underlying73 xX bg (by decide) (by decide) (by rfl) _ rfl (cs:=x3.map bv) (by simp [Jh.o]) d10 ?_
      exact⟨rfl,_,rfl,⟨w2.heap.size,rfl,Nat.le_refl _,by simp,zV w2 (x3.map bv) 32 1 _ _ rfl (by simp [Jh.o]) (by decide)⟩,(zb.refl _ _).alloc _⟩
    ·intro x w12 hkw b12 hd hwin
     have d1:x 1=_:=hd 1 (by decide)
     obtain⟨g9,d11,-,-,hsl⟩:=hd 11 (by decide)
     have Gk:=qI hsl
     have Jj:=qI (Gz.o.kept0 hkw)
     clear hd hwin hkw hsl
     change wpList _ _ _ [_,_,_] _ _
     go_wp2_with (at_builtin;refine zj QG (v:=.slice a2 k c2) (n:=k) (xs:=ot.flatten.map bv) (by have h9:=Jj.o.oth;rw [hl2.o] at h9;exact h9) Gk.o (xu _) (by simp only [maxLen];omega) (by omega) Jj.o.kept.size rfl _ _ rfl d1 d11 ?_;intro v6 w13 hown hk6 _ hb6;obtain⟨a6,c6,rfl,-,-⟩:=(Slc.of_row hown).form;obtain⟨u0,uf,ho13⟩:=Jj.o.push1 (x:=x3) (a5:=a6) (c5:=c6) (by rw [hl2.o];exact hown) (by rw [hl2.o];exact hk6) (by rw [hl2.o];exact hb6);rw [hl2.o] at u0 ho13;rw [← Jg.o] at ho13;have Jk:=qI ho13;clear hown hk6 hb6 ho13)
     case roundEnd=>exact⟨⟨k + 1,a5,a6,c5,c6,by go_num,by omega,Jk.o⟩,by simp [intOf];omega⟩
  ·obtain rfl:k=8:=by omega
   have f0:=za (o:=0) hoa.box rfl
   have f1:=za (o:=1) hoa.box rfl
   rw [hl1.o] at f0
   rw [hl2.o] at f1
   have Ja:=qI (hoa.kept.heap (Gi.o.heap Gx.o (by simp)) (by simp))
   have r0:=za (o:=0) Ja.o rfl
   have r1:=za (o:=1) Ja.o rfl
   have z:∀ j,wr.frozen? ⟨w.heap.size,j,none⟩=false:=fun j=>zh Ja.o
   clear hoa
   go_wp2_with fail
   change bodyPost _ _ _ _ _ (put2 wr w.heap.size (.slice a1 8 c1) (.slice a2 8 c2))
   have Gs:=vg wr w.heap.size (.slice a1 8 c1) (.slice a2 8 c2)
   have Jl:=put2_at Ja.o (.slice a1 8 c1) (.slice a2 8 c2)
   have y0:=za (o:=0) Jl rfl
   have y1:=za (o:=1) Jl rfl
   revert Gs y0 y1
   clear Jl
   generalize put2 wr w.heap.size (.slice a1 8 c1) (.slice a2 8 c2)=WF
   intro Gs y0 y1
   refine bodyPost_ret (v:=.tuple #[.agg #[.slice a1 8 c1,.slice a2 8 c2],.int .i64 0]) (by simp [results,results109,go_sem,y0,y1]) rfl ?_
   have hw2:w.heap.size < w2.heap.size:=by have:=Gx.o;have:=lt_of_block this;have:=Gi.o.size;omega
   have e1:=Gj.o.rev
   have e2:=Gj.o.oth
   rw [hl1.o] at e1
   rw [hl2.o] at e2
   refine⟨⟨a1,c1,a2,c2,rfl,?_,?_⟩,(Gc.o.then (Gi.o.then Gj.o.kept)).trans Gs (by intro i hi;simp at hi;subst hi;exact .inr (Nat.le_refl _))⟩
   ·rw [Js.o.1]
    exact Slc.of_row (zk e1 Gs (fun g hg hx=>by have h3:=(e1.lt g hg).1;simp at hx;omega))
   ·rw [Js.o.2]
    exact Slc.of_row (zk e2 Gs (fun g hg hx=>by have h3:=(e2.lt g hg).1;simp at hx;omega))
theorem flat32 {α:Type}:∀ (ls:List (List α)) (k i:Nat) (_:∀ x,x ∈ ls→x.length=32) (hk:k < ls.length),i < 32→ls.flatten[k * 32 + i]? = ls[k][i]?
 | [],_,_,_,hk,_=>by simp at hk
 | x :: t,0,i,h,_,hi=>by
  have hx:=h x (by simp)
  rw [List.flatten_cons,Nat.zero_mul,Nat.zero_add,List.getElem?_append_left (by omega)]
  rfl
 | x :: t,k + 1,i,h,hk,hi=>by
  have hx:=h x (by simp)
  rw [List.flatten_cons,List.getElem?_append_right (by omega),show (k + 1) * 32 + i - x.length=k * 32 + i by omega,flat32 t k i (fun y hy=>h y (List.mem_cons_of_mem _ hy)) (by simpa using hk) hi]
  rfl
theorem J5 {w:World}{g o:Nat}{ls:List (List UInt8)}(h:Row w g o (ls.flatten.map bv)) (h32:yH ls) (k:Nat) (hk:k < ls.length):w.rangeAt g (o + k * 32) (ls[k].map bv):=fun j v hv=>by
 have hj:j < 32:=by
  have:=(List.getElem?_eq_some_iff.1 hv).1
  rw [List.length_map,h32 _ (List.getElem_mem hk)] at this
  exact this
 rw [Nat.add_assoc]
 refine h.cells (k * 32 + j) v ?_
 rw [List.getElem?_map] at hv ⊢
 rw [flat32 ls k j h32 hk hj]
 exact hv
theorem qD {w:World}{size:Nat}{a:Option Addr}{n c:Nat}{xs:List Value}(h:Slc w size (.slice a n c) n xs) (hn:0 < n):∃ g o,a=some ⟨g,o,none⟩∧n≤c∧Row w g o xs:=by
 rcases h.2 with ⟨_,h0⟩ | ⟨h0,_⟩ | ⟨g,o,cap,h1,h2,-,h3⟩
 ·omega
 ·omega
 ·simp only [Value.slice.injEq] at h1
  obtain⟨rfl,-,rfl⟩:=h1
  exact⟨g,o,rfl,h2,h3⟩
theorem zR {ops:Array Oper}{rest:List Oper}{op:Oper}{a:Act}{w:World}{Q:Exit→Act→World→Prop}(hgd:op.guard=none) (x:Operand) (ho:op.op = .load 45 x) {g of:Nat}{l:List UInt8}(h0:w.rangeAt g of (l.map bv)) (hl:l.length=32)
  (hx:a.eval x = .pointer (some ⟨g,of,none⟩)) (h:wpList Tryz.prog ops Q rest (a.put op.dst (.agg (l.map bv).toArray)) w):wpList Tryz.prog ops Q (op :: rest) a w:=
 wpList_load_mid hgd 45 x ho g of hx (l.map bv) _ h0 underlying45 rfl (by rw [List.length_map,hl];exact xX) h
theorem ZW (w:World) (a1 a2:Option Addr) (n c1 c2:Nat) (hm:yA n=true) :
  Calls Tryz.prog 111 #[.agg #[.slice a1 n c1,.slice a2 n c2]] w fun e w'=>e = .returned (.bool true)∧zb [] w w':=by
 have hn:8≤n∧n≤256:=by
  unfold yA at hm
  simp only [Bool.and_eq_true,decide_eq_true_eq] at hm
  omega
 obtain⟨W1,Gd⟩:∃ W1,Hid (W1=w.alloc (.cells #[.slice a1 n c1,.slice a2 n c2] 80)):=⟨_,qI rfl⟩
 have Gc:Hid (zb [] w W1):=qI (by rw [Gd.o];exact (zb.refl _ w).alloc _)
 have hb:W1.heap[w.heap.size]? = some (.cells #[.slice a1 n c1,.slice a2 n c2] 80 (0,0)):=by rw [Gd.o];exact zd rfl
 have f0:=za (o:=0) hb rfl
 have f1:=za (o:=1) hb rfl
 have CM:Hid (Calls Tryz.prog 68 #[.int .i64 n] W1 fun e w'=>e = .returned (.bool true)∧W1=w'):=qI (by have h1:=jM n (by omega) (by omega) W1;rw [hm] at h1;exact h1)
 clear hm hb
 go_enter func111,ntmps111
 go_upto_region 1 with fail
 rw [← Gd.o]
 go_wp2_with (go_at_call 68;refine CM.o.mono ?_;rintro e w' ⟨rfl,rfl⟩)
 go_ret
 exact⟨rfl,Gc.o⟩
theorem imp_len {m:List UInt8}{o:Zw}(h1:yH o.rev) (h2:yH o.oth) (hl:o.oth.length=o.rev.length) {b:Nat}(hb:b < o.rev.length):(YP m o b).length=64:=by
 have h3:=jp h1 h2 hl hb
 unfold YP
 split <;> rw [List.length_append,yn] <;> omega
theorem imp_flat {m:List UInt8}{o:Zw}(h1:yH o.rev) (h2:yH o.oth) (hl:o.oth.length=o.rev.length):∀ k,k≤o.rev.length→(((List.range k).map (YP m o)).flatten).length=64 * k
 | 0,_=>rfl
 | k + 1,hk=>by
  rw [vH,List.length_append,imp_flat h1 h2 hl k (by omega),imp_len h1 h2 hl (by omega)]
  omega
theorem K3 {w:World}{am:Option Addr}{cm:Nat}{m:List UInt8}(hbm:zp w (.slice am m.length cm) m) (hm:m.length≤1048576) {s:Zw}{a1 a2:Option Addr}{c1 c2 n:Nat}(hn:s.rev.length=n) (hn2:s.oth.length=n) (hr32:yH s.rev) (ho32:yH s.oth) (hs1:Slc w 32 (.slice a1 n c1) n (s.rev.flatten.map bv)) (hs2:Slc w 32 (.slice a2 n c2) n (s.oth.flatten.map bv)) (hmb:yA n=true) (hks:xz w) :
  Calls Tryz.prog 137 #[.slice am m.length cm,.agg #[.slice a1 n c1,.slice a2 n c2]] w fun e w'=>e = .returned (.tuple #[.agg ((ko m s).map bv).toArray,.int .i64 0])∧zb [] w w':=by
 have hn8:8≤n∧n≤256:=by
  unfold yA at hmb
  simp only [Bool.and_eq_true,decide_eq_true_eq] at hmb
  omega
 obtain⟨g1,o1,rfl,-,hr1⟩:=qD hs1 (by omega)
 obtain⟨g2,o2,rfl,-,hr2⟩:=qD hs2 (by omega)
 obtain⟨W1,Gd⟩:∃ W1,Hid (W1=(w.alloc (.cells #[.slice (some ⟨g1,o1,none⟩) n c1,.slice (some ⟨g2,o2,none⟩) n c2] 80)).alloc (.cells z32 45)):=⟨_,qI rfl⟩
 have Gc:Hid (zb [] w W1):=qI (by rw [Gd.o];exact ((zb.refl _ w).alloc _).alloc _)
 have Jb:Hid (W1.heap[w.heap.size]? = some (.cells #[.slice (some ⟨g1,o1,none⟩) n c1,.slice (some ⟨g2,o2,none⟩) n c2] 80 (0,0))):=qI (by rw [Gd.o];exact ((zb.refl [] _).alloc _).heap (zd rfl) (by simp))
 have Gx:Hid (yf W1 (w.heap.size + 1) (xy zw 0)):=qI (by rw [Gd.o];exact zd (by simp))
 have f0:=za (o:=0) Jb.o rfl
 have f1:=za (o:=1) Jb.o rfl
 have CW:=qI (ZW W1 (some ⟨g1,o1,none⟩) (some ⟨g2,o2,none⟩) n c1 c2 hmb)
 have Gp:=qI (hks.kept0 Gc.o)
 have CO:Hid (∀ w2,zb [] W1 w2→Calls Tryz.prog 147 #[.slice am m.length cm] w2 fun e w'=>e = .returned (.agg ((jm m).map bv).toArray)∧zb [] w2 w'):=qI (fun w2 hk=>JV ((hbm.kept0 Gc.o).kept0 hk) hm (Gp.o.kept0 hk))
 have Gt:=qI (hr1.kept Gc.o (by simp))
 have Gu:=qI (hr2.kept Gc.o (by simp))
 have CDG:Hid (∀ (w3:World) (b:Nat),b < 256→Calls Tryz.prog 148 #[.agg ((jm m).map bv).toArray,.int .i64 b] w3 fun e w'=>e = .returned (.int .i64 (yW (jm m) b))∧zb [] w3 w'):=qI (fun w3 b h=>Qk w3 (jm m) (QZ m) b h)
 have HM:Hid (∀ b,YP m s b=if yW (jm m) b=0 then zY (s.rev.getD b []) ++ s.oth.getD b [] else s.oth.getD b [] ++ zY (s.rev.getD b [])):=qI (fun _=>rfl)
 have Mf:Hid (ko m s=ZK tKey [((List.range n).map (YP m s)).flatten]):=qI (by unfold ko;rw [hn])
 have Jw:Hid (∀ k,k≤n→(((List.range k).map (YP m s)).flatten).length=64 * k):=qI (fun k hk=>imp_flat hr32 ho32 (by omega) k (by omega))
 have Ge:Hid (∀ k,yW (jm m) k < 2):=qI (fun k=>Y4 _ _)
 have Mg:=qI hn
 have Mh:=qI hn2
 have H32:=qI (And.intro hr32 ho32)
 have hnI:(n:Int)≤256:=by omega
 have hmI:(m.length:Int)≤1048576:=by omega
 have Jc:=qI hn8
 clear hbm hm hs1 hs2 hks hmb hr1 hr2 hr32 ho32 hn hn2 hn8
 generalize hmn:m.length=mn at CO hmI
 generalize jm m=md at CO CDG HM Ge
 go_enter func137,ntmps137
 go_upto_region 1 with fail
 change Code.wp _ _ _ _ ((w.alloc (.cells #[.slice (some ⟨g1,o1,none⟩) n c1,.slice (some ⟨g2,o2,none⟩) n c2] 80)).alloc (.cells z32 45))
 rw [← Gd.o]
 go_upto_region 6 with first
  | (go_at_call 111;refine CW.o.mono ?_;rintro e w2 ⟨rfl,hk2⟩;have Gi:=qI hk2;clear hk2)
  | (go_at_call 147;refine (CO.o _ Gi.o).mono ?_;rintro e ws ⟨rfl,hk3⟩;have Mi:=qI hk3;clear hk3)
 obtain⟨W4,Jx⟩:∃ W4,Hid (W4=ws.alloc (.cells #[.slice none 0 0] 109)):=⟨_,qI rfl⟩
 have Jm:Hid (qb ws ws.heap.size W4 []):=qI (by rw [Jx.o];exact sumsNew ws)
 have Gf:Hid (zb [] W1 ws):=qI (Gi.o.then Mi.o)
 have c1':=(Gf.o.then Jm.o.kept).cell f0 (by simp)
 clear f0
 go_upto_region 7 with fail
 rw [← Jx.o]
 generalize hp:ws.heap.size=p at Jm
 have HP:=qI hp
 clear hp
 go_wp2_with fail
 go_loopw [8,9,28] (fun _ _ i wr=>∃ k:Nat,i = .int .i64 k∧k≤n∧qb ws p wr ((List.range k).map (YP m s)).flatten) (fun _ _ i _=>n - (intOf i).toNat)
 case atStart=>exact⟨0,rfl,Nat.zero_le _,Jm.o⟩
 case round=>
  obtain⟨k,rfl,hk,hsm⟩:=hrel
  have Gl:=qI hsm
  clear hsm c1'
  rcases Nat.lt_or_ge k n with h8 | h8
  ·have h8I:(k:Int) < n:=by omega
   have Jy:=qI h8I
   have Jd:=qI h8
   have Gh:Hid (zb [] W1 wr):=qI (Gf.o.then Gl.o.kept)
   have hkr:k < s.rev.length:=by rw [Mg.o];exact h8
   have hko:k < s.oth.length:=by rw [Mh.o];exact h8
   have Jz:Hid (wr.rangeAt g1 (o1 + k * 32) (s.rev[k].map bv)):=qI (J5 (Gt.o.kept Gh.o (by simp)) H32.o.1 k hkr)
   have Gm:Hid (wr.rangeAt g2 (o2 + k * 32) (s.oth[k].map bv)):=qI (J5 (Gu.o.kept Gh.o (by simp)) H32.o.2 k hko)
   have Gg:Hid (s.rev[k].length=32):=qI (H32.o.1 _ (List.getElem_mem _))
   have Gv:Hid (s.oth[k].length=32):=qI (H32.o.2 _ (List.getElem_mem _))
   have Gn:Hid (YP m s k=if yW md k=0 then zY s.rev[k] ++ s.oth[k] else s.oth[k] ++ zY s.rev[k]):=qI (by
    rw [HM.o,List.getD,List.getElem?_eq_getElem hkr,List.getD,List.getElem?_eq_getElem hko];rfl)
   have Ma:=qI (vH (YP m s) k)
   have Mb:=qI (Jw.o k (by omega))
   have CU':Hid (∀ w3,zb [] W1 w3→Calls Tryz.prog 71 #[.agg (s.rev[k].map bv).toArray] w3 fun e w'=>e = .returned (.agg ((zY s.rev[k]).map bv).toArray)∧zb [] w3 w'):=qI (fun w3 hk3=>bi w3 _ Gg.o (Gp.o.kept0 hk3))
   have Jn:Hid ((zY s.rev[k]).length=32):=qI (yn _)
   have CD:Hid (∀ w3,Calls Tryz.prog 148 #[.agg (md.map bv).toArray,.int .i64 k] w3 fun e w'=>e = .returned (.int .i64 (yW md k))∧zb [] w3 w'):=qI (fun w3=>CDG.o w3 k (by have:=Jc.o;omega))
   have Jo:=qI (Ge.o k)
   have f1:=Gh.o.cell f1 (by simp)
   generalize zY s.rev[k]=u1 at CU' Gn Jn
   generalize s.rev[k]=x1 at Jz Gg CU'
   generalize s.oth[k]=y1 at Gm Gv Gn
   generalize yW md k=sd at CD Gn Jo
   clear hkr hko h8
   go_upto_region 10 with first
    | (refine zR (by rfl) _ rfl (g:=g1) (of:=o1 + k * 32) Jz.o Gg.o (by rfl) ?_)
    | (refine zu (by rfl) (.tmp 9) (.tmp 32) (by rfl) (g:=wr.heap.size) (l0:=xy zw 0) (zd rfl) (z6 _ _) Gg.o (by rfl) (by rfl) ?_;intro w4 h4 hk4;have Gw:=qI h4;have Je:Hid (zb [] wr w4):=qI (((zb.refl [] wr).alloc _).trans hk4 (by intro i hi;simp at hi;subst hi;exact .inr (Nat.le_refl _)));clear h4 hk4;simp only [Act.put])
   have hsd:sd=0∨sd=1:=by have:=Jo.o;omega
   clear f1 Jo
   rcases hsd with rfl | rfl
   ·rw [if_pos rfl] at Gn
    go_upto_region 11 with (go_at_call 148;refine (CD.o _).mono ?_;rintro e w5 ⟨rfl,hk5⟩;have Ga:=qI hk5;clear hk5)
    have Gb:=qI (Je.o.then Ga.o)
    have Jp:=qI (Gw.o.kept0 Ga.o)
    have Jq:Hid (w5.rangeAt g2 (o2 + k * 32) (y1.map bv)):=qI (fun j v hv=>Gb.o.cell (Gm.o j v hv) (by simp))
    have f1:=za (o:=1) ((Gh.o.then Gb.o).heap Jb.o (by simp)) rfl
    have CU:Hid (∀ w3,zb [] w5 w3→_):=qI (fun w3 h=>CU'.o w3 ((Gh.o.then Gb.o).then h))
    have CA:Hid (∀ w3,zb [] w5 w3→Calls Tryz.prog 70 #[.pointer (some ⟨p,0,none⟩),.agg (u1.map bv).toArray,.agg (y1.map bv).toArray] w3 fun e w'=>e = .returned (.tuple #[])∧qb ws p w' ((List.range (k + 1)).map (YP m s)).flatten):=qI (fun w3 h=>by
     have h1:=jR (Gl.o.kept0 (Gb.o.then h)) Jn.o Gv.o (by have:=Mb.o;have:=Jc.o;omega)
     rw [Ma.o,Gn.o,← List.append_assoc]
     exact h1)
    refine zZ (n:=58) 8 [zg.is (.pointer (some ⟨p,0,none⟩)),
     zg.is (.agg (x1.map bv).toArray),
     zg.is (.agg (u1.map bv).toArray),
     zg.is (.pointer (some ⟨w.heap.size,1,none⟩)),
     zg.is (.slice (some ⟨g2,o2,none⟩) n c2),
     zg.is (.int .i64 k),
     zg.is (.pointer (some ⟨g2,o2 + k * 32,none⟩)),
     zg.is (.agg (y1.map bv).toArray)] (by kernel_rfl) rfl (by kernel_rfl) (fun x=>by simp only [List.map,yM,Act.put,List.setIfInBounds_toArray,List.set_cons_zero,List.set_cons_succ];rfl) ?_ ?_
    ·refine⟨fun x w2 hkw b hd=>?_,fun x w2 hkw b hd=>?_,fun x w2 hkw b hd=>?_,fun x w2 hkw b hd=>?_,fun x w2 hkw b hd=>?_,fun x w2 hkw b hd=>?_,fun x w2 hkw b hd=>?_,fun x w2 hkw b hd=>?_,trivial⟩
     ·go_wp2_with fail
      exact⟨rfl,zb.refl _ _⟩
     ·change wpList _ _ _ [_] _ _
      refine yz (by rfl) (.tmp 9) (by rfl) (Jp.o.kept0 hkw) Gg.o (by rfl) ?_
      exact⟨rfl,_,rfl,rfl,zb.refl _ _⟩
     ·have d1:x 1=_:=hd 1 (by kernel_rfl)
      have CX:=CU.o w2 hkw
      go_wp2_with (go_at_call 71;refine CX.mono ?_;rintro e w5 ⟨rfl,hk5⟩;have Ga:=qI hk5;clear hk5)
      exact⟨rfl,Ga.o⟩
     ·go_wp2_with fail
      exact⟨rfl,zb.refl _ _⟩
     ·have d3:x 3=_:=hd 3 (by kernel_rfl)
      have y0:=hkw.cell f1 (by simp)
      go_wp2_with fail
      exact⟨rfl,zb.refl _ _⟩
     ·go_wp2_with fail
      exact⟨rfl,zb.refl _ _⟩
     ·have d4:x 4=_:=hd 4 (by kernel_rfl)
      have d5:x 5=_:=hd 5 (by kernel_rfl)
      have hkN:=Jy.o
      go_wp2_with fail
      exact⟨rfl,zb.refl _ _⟩
     ·have d6:x 6=_:=hd 6 (by kernel_rfl)
      change wpList _ _ _ [_] _ _
      refine zR (by rfl) _ rfl (g:=g2) (of:=o2 + k * 32) (fun j v hv=>hkw.cell (Jq.o j v hv) (by simp)) Gv.o d6 ?_
      exact⟨rfl,_,rfl,rfl,zb.refl _ _⟩
    ·intro x w7 hkw b7 hd hwin
     have d0:x 0=_:=hd 0 (by decide)
     have d2:x 2=_:=hd 2 (by decide)
     have d7:x 7=_:=hd 7 (by decide)
     have Jr:=qI hkw
     clear hd hwin hkw
     change wpList _ _ _ [_] _ _
     go_wp2_with (go_at_call 70;refine (CA.o _ Jr.o).mono ?_;rintro e w8 ⟨rfl,h8⟩;have H8:=qI h8;clear h8)
     case roundEnd=>exact⟨⟨k + 1,by go_num,by have:=Jd.o;omega,H8.o⟩,by have:=Jd.o;simp [intOf];omega⟩
   ·rw [if_neg (by decide)] at Gn
    go_upto_region 12 with (go_at_call 148;refine (CD.o _).mono ?_;rintro e w5 ⟨rfl,hk5⟩;have Ga:=qI hk5;clear hk5)
    have Gb:=qI (Je.o.then Ga.o)
    have Jp:=qI (Gw.o.kept0 Ga.o)
    have Jq:Hid (w5.rangeAt g2 (o2 + k * 32) (y1.map bv)):=qI (fun j v hv=>Gb.o.cell (Gm.o j v hv) (by simp))
    have f1:=za (o:=1) ((Gh.o.then Gb.o).heap Jb.o (by simp)) rfl
    have CU:Hid (∀ w3,zb [] w5 w3→_):=qI (fun w3 h=>CU'.o w3 ((Gh.o.then Gb.o).then h))
    have CA:Hid (∀ w3,zb [] w5 w3→Calls Tryz.prog 70 #[.pointer (some ⟨p,0,none⟩),.agg (y1.map bv).toArray,.agg (u1.map bv).toArray] w3 fun e w'=>e = .returned (.tuple #[])∧qb ws p w' ((List.range (k + 1)).map (YP m s)).flatten):=qI (fun w3 h=>by
     have h1:=jR (Gl.o.kept0 (Gb.o.then h)) Gv.o Jn.o (by have:=Mb.o;have:=Jc.o;omega)
     rw [Ma.o,Gn.o,← List.append_assoc]
     exact h1)
    refine zZ (n:=58) 8 [zg.is (.pointer (some ⟨p,0,none⟩)),
     zg.is (.pointer (some ⟨w.heap.size,1,none⟩)),
     zg.is (.slice (some ⟨g2,o2,none⟩) n c2),
     zg.is (.int .i64 k),
     zg.is (.pointer (some ⟨g2,o2 + k * 32,none⟩)),
     zg.is (.agg (y1.map bv).toArray),
     zg.is (.agg (x1.map bv).toArray),
     zg.is (.agg (u1.map bv).toArray)] (by kernel_rfl) rfl (by kernel_rfl) (fun x=>by simp only [List.map,yM,Act.put,List.setIfInBounds_toArray,List.set_cons_zero,List.set_cons_succ];rfl) ?_ ?_
    ·refine⟨fun x w2 hkw b hd=>?_,fun x w2 hkw b hd=>?_,fun x w2 hkw b hd=>?_,fun x w2 hkw b hd=>?_,fun x w2 hkw b hd=>?_,fun x w2 hkw b hd=>?_,fun x w2 hkw b hd=>?_,fun x w2 hkw b hd=>?_,trivial⟩
     ·go_wp2_with fail
      exact⟨rfl,zb.refl _ _⟩
     ·go_wp2_with fail
      exact⟨rfl,zb.refl _ _⟩
     ·have d1:x 1=_:=hd 1 (by kernel_rfl)
      have y0:=hkw.cell f1 (by simp)
      go_wp2_with fail
      exact⟨rfl,zb.refl _ _⟩
     ·go_wp2_with fail
      exact⟨rfl,zb.refl _ _⟩
     ·have d2:x 2=_:=hd 2 (by kernel_rfl)
      have d3:x 3=_:=hd 3 (by kernel_rfl)
      have hkN:=Jy.o
      go_wp2_with fail
      exact⟨rfl,zb.refl _ _⟩
     ·have d4:x 4=_:=hd 4 (by kernel_rfl)
      change wpList _ _ _ [_] _ _
      refine zR (by rfl) _ rfl (g:=g2) (of:=o2 + k * 32) (fun j v hv=>hkw.cell (Jq.o j v hv) (by simp)) Gv.o d4 ?_
      exact⟨rfl,_,rfl,rfl,zb.refl _ _⟩
     ·change wpList _ _ _ [_] _ _
      refine yz (by rfl) (.tmp 9) (by rfl) (Jp.o.kept0 hkw) Gg.o (by rfl) ?_
      exact⟨rfl,_,rfl,rfl,zb.refl _ _⟩
     ·have d6:x 6=_:=hd 6 (by kernel_rfl)
      have CX:=CU.o w2 hkw
      go_wp2_with (go_at_call 71;refine CX.mono ?_;rintro e w5 ⟨rfl,hk5⟩;have Ga:=qI hk5;clear hk5)
      exact⟨rfl,Ga.o⟩
    ·intro x w7 hkw b7 hd hwin
     have d0:x 0=_:=hd 0 (by decide)
     have d5:x 5=_:=hd 5 (by decide)
     have d7:x 7=_:=hd 7 (by decide)
     have Jr:=qI hkw
     clear hd hwin hkw
     change wpList _ _ _ [_] _ _
     go_wp2_with (go_at_call 70;refine (CA.o _ Jr.o).mono ?_;rintro e w8 ⟨rfl,h8⟩;have H8:=qI h8;clear h8)
     case roundEnd=>exact⟨⟨k + 1,by go_num,by have:=Jd.o;omega,H8.o⟩,by have:=Jd.o;simp [intOf];omega⟩
  ·obtain rfl:k=n:=by omega
   have CD:Hid (Calls Tryz.prog 73 #[.pointer (some ⟨p,0,none⟩)] wr fun e w'=>e = .returned (.agg ((ko m s).map bv).toArray)∧zb [] wr w'):=qI (by
    rw [Mf.o]
    exact bF Gl.o (by have:=Jw.o k (Nat.le_refl _);have:=Jc.o;omega) (Gp.o.kept0 (Gf.o.then Gl.o.kept)))
   have Gk:Hid ((ko m s).length=32):=qI (Zr _ _)
   generalize hse:ko m s=sl at CD Gk
   have Mj:=qI hse
   clear hse
   have Mk:=qI (Gx.o.kept0 (Gf.o.then Gl.o.kept))
   go_wp2_with first
    | (go_at_call 73;refine CD.o.mono ?_;rintro e w4 ⟨rfl,hk4⟩;have Je:=qI hk4;have Ml:=qI (Mk.o.kept0 hk4);clear hk4)
    | (refine zu (by rfl) (.tmp 4) (.tmp 57) (by rfl) Ml.o (z6 _ _) Gk.o (by rfl) (by rfl) ?_;intro w5 h5 hk5;have H5:=qI h5;have Ga:=qI hk5;clear h5 hk5)
   have hres:=H5.o.var Gk.o
   refine bodyPost_ret (v:=.tuple #[.agg (sl.map bv).toArray,.int .i64 0]) (by simp only [results,results137];simp [hres,Sem.run_bind,asAddr,Act.put]) rfl ⟨by rw [Mj.o],?_⟩
   exact ((Gc.o.then (Gf.o.then Gl.o.kept)).then Je.o).trans Ga.o (by intro i hi;simp at hi;subst hi;exact .inr (by omega))
end Go.Proofs.YtibnfbglanpoiaaGreatDoor

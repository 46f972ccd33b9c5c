/- Parts of one proof, merged: XBJ XBK XMap XCT XCV XCW XCY. -/
import Derived.Test.YtibnfbglanpoiaaGreatDoorQcX
import Derived.Test.YtibnfbglanpoiaaGreatDoorQcA
import Derived.Maps.OwnSet
import Derived.StringKeys
import Derived.Test.YtibnfbglanpoiaaGreatDoorQcV
import Derived.Test.YtibnfbglanpoiaaGreatDoorQcR
import Derived.Test.YtibnfbglanpoiaaGreatDoorQcO
set_option linter.all false
set_option maxHeartbeats 12800000
set_option maxRecDepth 10000
set_option linter.unusedVariables false
set_option linter.unusedSimpArgs false
set_option linter.unnecessarySimpa false
namespace Go.Proofs.YtibnfbglanpoiaaGreatDoor
open Go.Proofs.Tryz
open Go.RowKit
attribute [local go_sem] Oper.semAt_some
structure Lev2 (w:World) (g:Nat) (x0 x1 nd:List UInt8):Prop where
 ex:∃ gb c2 gc oc c3,w.cell? ⟨g,0,none⟩=some (.slice (some ⟨gb,0,none⟩) 2 c2)∧w.cell? ⟨g,1,none⟩=some (.slice (some ⟨gc,oc,none⟩) 1 c3)∧w.rangeAt gb 0 (x0.map bv)∧w.rangeAt gb 32 (x1.map bv)∧w.rangeAt gc oc (nd.map bv)
def lenOf:Value→Nat
 | .slice _ n _=>n
 | _=>0
theorem Kj {w:World}{base e size n c:Nat}{a:Option Addr}{xs:List Value}(h:w.ownsRow base e size (.slice a n c) n xs) (hn:0 < n):∃ g,a=some ⟨g,0,none⟩:=by
 rcases h.2 with ⟨-,h0⟩ | ⟨g,cap,cur,e,-⟩
 ·omega
 ·injection e with e1 e2 e3
  exact⟨g,e1⟩
theorem own_cap {w:World}{base e size n c g:Nat}{xs:List Value}(h:w.ownsRow base e size (.slice (some ⟨g,0,none⟩) n c) n xs):n≤c∧c≤maxLen:=by
 obtain⟨a',c',h3,h4,h5⟩:=(Slc.of_row h).form
 simp only [Value.slice.injEq] at h3
 obtain⟨-,-,rfl⟩:=h3
 exact⟨h4,h5⟩
theorem two_rows {w:World}{base c g:Nat}{x0 x1:List UInt8}(h0:x0.length=32) (h:w.ownsRow base 45 32 (.slice (some ⟨g,0,none⟩) 2 c) 2 ((x0 ++ x1).map bv)):w.rangeAt g 0 (x0.map bv)∧w.rangeAt g 32 (x1.map bv):=by
 have hl:=h.1
 rw [List.length_map,List.length_append] at hl
 refine⟨fun j v hv=>?_,fun j v hv=>?_⟩
 ·have hj:=(List.getElem?_eq_some_iff.1 hv).1
  rw [List.length_map] at hj
  rw [Nat.zero_add,h.cellAt j (by omega),List.map_append,List.getElem?_append_left (by rw [List.length_map];omega),hv]
 ·have hj:=(List.getElem?_eq_some_iff.1 hv).1
  rw [List.length_map] at hj
  rw [h.cellAt (32 + j) (by omega),List.map_append,List.getElem?_append_right (by rw [List.length_map];omega),List.length_map,show 32 + j - x0.length=j by omega,hv]
set_option maxRecDepth 100000 in
theorem KR {w:World}{bk off cap:Nat}{x0 x1:List UInt8}(h0:x0.length=32) (h1:x1.length=32) (hs:Slc w 32 (.slice (some ⟨bk,off,none⟩) 2 cap) 2 ((x0 ++ x1).map bv)) (hks:xz w) :
  Calls Tryz.prog 74 #[.slice (some ⟨bk,off,none⟩) 2 cap] w fun e w'=>(∃ g cc,e = .returned (.tuple #[.slice (some ⟨g,0,none⟩) 2 cc,.int .i64 0])∧Lev2 w' g x0 x1 (xC x0 x1)∧2≤cc∧cc≤maxLen)∧zb [] w w':=by
 have CM:=KK w
 have CC:=qI (clone32_any hs (xu _) (by decide))
 have Gs:=qI hks
 have Gv:=qI (And.intro h0 h1)
 have Gp:Hid ((xC x0 x1).length=32):=qI (yP _ _)
 have CU:Hid (∀ w2 b o c2,zb [] w w2→2≤c2→c2≤maxLen→w2.rangeAt b o (x0.map bv)→w2.rangeAt b (o + 32) (x1.map bv)→Calls Tryz.prog 107 #[.slice (some ⟨b,o,none⟩) 2 c2] w2 fun e w'=>(∃ a c,e = .returned (.slice a 1 c)∧Slc w' 32 (.slice a 1 c) 1 ((xC x0 x1).map bv)∧∀ g,yq (.slice a 1 c)=some g→w2.heap.size≤g)∧zb [] w2 w'):=qI (fun w2 b o c2 hk h2 h3 h4 h5=>up_any Gv.o.1 Gv.o.2 h2 h3 h4 h5 (Gs.o.kept0 hk))
 clear h0 h1 hs hks
 generalize xC x0 x1=nd at Gp CU ⊢
 go_enter func74,ntmps74
 go_upto_region 3 with (go_at_call 105;refine CM.mono ?_;rintro e w' ⟨rfl,rfl⟩)
 go_upto_region 4 with (go_at_call 106;refine CC.o.mono ?_;rintro e w2 ⟨⟨a2,c2,rfl,ho⟩,hk2⟩;have HO:=qI ho;have Ga:=qI hk2;clear ho hk2)
 obtain⟨gb,rfl⟩:=Kj HO.o (by decide)
 have Je:=qI (own_cap HO.o)
 obtain⟨hr0,hr1⟩:=two_rows Gv.o.1 HO.o
 have Jf:=qI hr0
 have Jg:=qI hr1
 obtain⟨W3,Gt⟩:∃ W3,Hid (W3=w2.alloc (.cells #[.slice (some ⟨gb,0,none⟩) 2 c2] 73)):=⟨_,qI rfl⟩
 have Ge:Hid (zb [] w2 W3):=qI (by rw [Gt.o];exact (zb.refl _ _).alloc _)
 have Gw:Hid (W3.ownsRow w.heap.size 73 1 (.slice (some ⟨w2.heap.size,0,none⟩) 1 1) 1 [.slice (some ⟨gb,0,none⟩) 2 c2]):=qI (by
  refine⟨rfl,.inr ⟨w2.heap.size,1,#[.slice (some ⟨gb,0,none⟩) 2 c2],rfl,Ga.o.size,?_,by decide,by decide,rfl,rfl⟩⟩
  rw [Gt.o];exact zd rfl)
 rw [← Gt.o]
 have f0:W3.cell? ⟨w2.heap.size,0,none⟩=some (.slice (some ⟨gb,0,none⟩) 2 c2):=by rw [Gw.o.cellAt 0 (by decide)];rfl
 have Jh:Hid (w2.heap.size < W3.heap.size):=qI (by rw [Gt.o];simp)
 generalize hg0:w2.heap.size=g0 at Gw f0 Jh ⊢
 have Jl:=qI (Nat.le_of_eq hg0)
 clear hg0
 clear hr0 hr1
 go_wp2_with fail
 clear f0
 go_loopw [4,5] (fun t4 t5 wr=>(t4 = .slice (some ⟨g0,0,none⟩) 1 1∧t5 = .slice (some ⟨gb,0,none⟩) 2 c2∧W3=wr)∨(∃ g cc gc oc c3,t4 = .slice (some ⟨g,0,none⟩) 2 cc∧t5 = .slice (some ⟨gc,oc,none⟩) 1 c3∧Hid (wr.cell? ⟨g,0,none⟩=some (.slice (some ⟨gb,0,none⟩) 2 c2))∧Hid (wr.cell? ⟨g,1,none⟩=some (.slice (some ⟨gc,oc,none⟩) 1 c3))∧Hid (wr.rangeAt gc oc (nd.map bv))∧Hid (zb [] w2 wr)∧Hid (zb [] w wr)∧Hid (2≤cc∧cc≤maxLen))) (fun _ t5 _=>lenOf t5)
 case atStart=>exact .inl ⟨rfl,rfl,rfl⟩
 case round=>
  rcases hrel with ⟨rfl,rfl,rfl⟩ | ⟨g,cc,gc,oc,c3,rfl,rfl,Jm,Jn,Gx,Gq,Gl,Gy⟩
  ·have CUW:=qI (CU.o W3 gb 0 c2 (Ga.o.then Ge.o) Je.o.1 Je.o.2 (fun j v hv=>Ge.o.cell (Jf.o j v hv) (by simp)) (fun j v hv=>by rw [Nat.zero_add];exact Ge.o.cell (Jg.o j v hv) (by simp)))
   go_upto_region 7 with (go_at_call 107;refine CUW.o.mono ?_;rintro e w4 ⟨⟨a4,c4,rfl,hs4,hg4⟩,hk4⟩;have Jo:=qI hs4;have Jp:=qI hg4;have Gr:=qI hk4;clear hs4 hg4 hk4)
   obtain⟨gc,oc,rfl,-,hrow⟩:=qD Jo.o (by decide)
   have Gz:Hid (w4.rangeAt gc oc (nd.map bv)):=qI hrow.cells
   have Jq:=qI (zk Gw.o Gr.o (by simp))
   clear hrow
   go_wp2_with (at_builtin;refine zj tyLev (base:=w.heap.size) (v:=.slice (some ⟨g0,0,none⟩) 1 1) (n:=1) (m:=1) (news:=[.slice (some ⟨gc,oc,none⟩) 1 c4]) (xs:=[.slice (some ⟨gb,0,none⟩) 2 c2]) (zk Jq.o ((zb.refl [] _).alloc _) (by simp)) (zV w4 _ 1 1 _ _ rfl rfl (by decide)) (by intro u hu;simp at hu;subst hu;rfl) (by decide) (by decide) (by have:=Ga.o.size;have:=Ge.o.size;have:=Gr.o.size;simp;omega) (by rfl) _ _ rfl rfl rfl ?_;intro v6 w6 hown hk6 _ _;obtain⟨a6,c6,rfl,-,-⟩:=(Slc.of_row hown).form;obtain⟨g6,rfl⟩:=Kj hown (by decide);have Gm:=qI hown;have Gi:=qI hk6;clear hown hk6)
   case roundEnd=>
    have hkk:zb [] w2 w6:=((Ge.o.then Gr.o).alloc _).trans Gi.o (by intro b hb;simp [Value.ownBlock] at hb;subst hb;exact .inr Jl.o)
    have hgc:W3.heap.size≤gc:=Jp.o gc (jW (by decide))
    have hg0:=Jh.o
    exact⟨.inr ⟨g6,c6,gc,oc,c4,rfl,rfl,qI (by rw [Gm.o.cellAt 0 (by decide)];rfl),qI (by rw [Gm.o.cellAt 1 (by decide)];rfl),qI (fun j v hv=>Gi.o.cell (((zb.refl [] _).alloc _).cell (Gz.o j v hv) (by simp)) (by simp [Value.ownBlock];omega)),qI hkk,qI (Ga.o.then hkk),qI (own_cap Gm.o)⟩,by show 1 < 2;decide⟩
  ·go_wp2_with fail
   go_ret2
   exact⟨⟨g,cc,rfl,⟨gb,c2,gc,oc,c3,Jm.o,Jn.o,fun j v hv=>Gq.o.cell (Jf.o j v hv) (by simp),fun j v hv=>Gq.o.cell (Jg.o j v hv) (by simp),Gx.o⟩,Gy.o⟩,Gl.o⟩
attribute [local go_sem] Oper.semAt_some
set_option maxRecDepth 100000 in
theorem root_any {w:World}{bk off cap:Nat}{x0 x1:List UInt8}(h0:x0.length=32) (h1:x1.length=32) (hs:Slc w 32 (.slice (some ⟨bk,off,none⟩) 2 cap) 2 ((x0 ++ x1).map bv)) (hks:xz w) :
  Calls Tryz.prog 38 #[.slice (some ⟨bk,off,none⟩) 2 cap] w fun e w'=>e = .returned (.tuple #[.agg ((xC x0 x1).map bv).toArray,.int .i64 0])∧zb [] w w':=by
 obtain⟨W1,Gj⟩:∃ W1,Hid (W1=w.alloc (.cells z32 45)):=⟨_,qI rfl⟩
 have Gf:Hid (zb [] w W1):=qI (by rw [Gj.o];exact (zb.refl _ w).alloc _)
 have Gk:Hid (yf W1 w.heap.size (xy zw 0)):=qI (by rw [Gj.o];exact zd rfl)
 have CL:=qI (KR h0 h1 (hs.kept0 Gf.o) (hks.kept0 Gf.o))
 have Gp:Hid ((xC x0 x1).length=32):=qI (yP _ _)
 clear h0 h1 hs hks
 generalize xC x0 x1=nd at Gp CL ⊢
 go_enter func38,ntmps38
 go_upto_region 1 with fail
 change Code.wp _ _ _ _ (w.alloc (.cells z32 45))
 rw [← Gj.o]
 go_upto_region 4 with (go_at_call 74;refine CL.o.mono ?_;rintro e w2 ⟨⟨g,cc,rfl,hl,-⟩,hk2⟩;have Ja:=qI hl;have Ga:=qI hk2;clear hl hk2)
 obtain⟨gb,c2,gc,oc,c3,q0,q1,-,-,hnd⟩:=Ja.o.ex
 have Gx:=qI hnd
 have Jr:=qI (Gk.o.kept0 Ga.o)
 clear hnd q0
 go_wp2_with first
  | (refine zR (by rfl) _ rfl (g:=gc) (of:=oc) Gx.o Gp.o (by rfl) ?_)
  | (refine zu (by rfl) (.tmp 2) (.tmp 22) (by rfl) Jr.o (z6 _ _) Gp.o (by rfl) (by rfl) ?_;intro w5 h5 hk5;have H5:=qI h5;have Gn:=qI hk5;clear h5 hk5)
 have hres:=H5.o.var Gp.o
 refine bodyPost_ret (v:=.tuple #[.agg (nd.map bv).toArray,.int .i64 0]) (by simp only [results,results38];simp [hres,Sem.run_bind,asAddr,Act.put]) rfl ⟨rfl,?_⟩
 exact (Gf.o.then Ga.o).trans Gn.o (by intro i hi;simp at hi;subst hi;exact .inr (Nat.le_refl _))
def Kk (x0 x1:List UInt8) (i:Nat):List UInt8:=if i=0 then x1 else x0
set_option maxRecDepth 100000 in
theorem way_any {w:World}{g cc:Nat}{x0 x1 nd:List UInt8}(h0:x0.length=32) (h1:x1.length=32) (h:Lev2 w g x0 x1 nd) (hcc:2≤cc∧cc≤maxLen) (i:Nat) (hi:i < 2) :
  Calls Tryz.prog 146 #[.slice (some ⟨g,0,none⟩) 2 cc,.int .i64 i] w fun e w'=>(∃ a c,e = .returned (.slice a 1 c)∧Slc w' 32 (.slice a 1 c) 1 ((Kk x0 x1 i).map bv))∧zb [] w w':=by
 obtain⟨gb,c2,gc,oc,c3,q0,q1,hr0,hr1,-⟩:=h.ex
 have HL:Hid ((Kk x0 x1 i).length=32):=qI (by unfold Kk;split <;> assumption)
 have hcc1:(2:Int)≤cc:=by omega
 have hcc2:2≤cc:=hcc.1
 have hcc3:¬ cc=0:=by omega
 have Js:=qI q0
 have HR:Hid (w.rangeAt gb (32 * (1 - i)) ((Kk x0 x1 i).map bv)):=qI (by
  have:i=0∨i=1:=by omega
  rcases this with rfl | rfl
  ·exact hr1
  ·exact hr0)
 have HI:=qI hi
 clear h h0 h1 hr0 hr1 q1 hcc q0
 generalize Kk x0 x1 i=ot at HL HR ⊢
 go_enter func146,ntmps146
 go_wp2_with fail
 go_loopw [1,5,7,14] (fun iv t5 _ idx wr=>(iv = .int .i64 i∧t5 = .slice none 0 0∧idx = .int .i64 0∧w=wr)∨(∃ a c,t5 = .slice a 1 c∧idx = .int .i64 1∧Hid (Slc wr 32 (.slice a 1 c) 1 (ot.map bv))∧Hid (zb [] w wr))) (fun _ _ _ idx _=>1 - (intOf idx).toNat)
 case atStart=>exact .inl ⟨rfl,rfl,rfl,rfl⟩
 case round=>
  rcases hrel with ⟨rfl,rfl,rfl,rfl⟩ | ⟨a,c,rfl,rfl,HS,Gl⟩
  ·have q0:=Js.o
   have hi2:i=0∨i=1:=by have:=HI.o;omega
   rcases hi2 with rfl | rfl
   ·have Jb:Hid (w.rangeAt gb 32 (ot.map bv)):=qI HR.o
    clear HR
    go_wp2_with first
     | (refine zR (by rfl) _ rfl (g:=gb) (of:=32) Jb.o HL.o (by rfl) ?_)
     | (refine yI underlying73 xX bg (by decide) (by decide) (by rfl) _ rfl (cs:=ot.map bv) (by simp [HL.o]) (by rfl) ?_)
     | (at_builtin;refine zj QG (base:=w.heap.size) (v:=.slice none 0 0) (n:=0) (m:=1) (news:=ot.map bv) (xs:=[]) (World.ownsRow_nil _ _ _ _) (zV w (ot.map bv) 32 1 _ _ rfl (by simp [HL.o]) (by decide)) (xu _) (by decide) (by decide) (by simp) (by rfl) _ _ rfl rfl rfl ?_;intro v6 w6 hown hk6 _ _;obtain⟨a6,c6,rfl,-,-⟩:=(Slc.of_row hown).form;have Gm:=qI hown;have Gi:=qI hk6;clear hown hk6)
    case roundEnd=>exact⟨.inr ⟨a6,c6,rfl,by go_num,qI (Slc.of_row Gm.o),qI (((zb.refl [] w).alloc _).trans Gi.o (by intro b hb;simp [Value.ownBlock] at hb))⟩,by simp [intOf]⟩
   ·have Jb:Hid (w.rangeAt gb 0 (ot.map bv)):=qI HR.o
    clear HR
    go_wp2_with first
     | (refine zR (by rfl) _ rfl (g:=gb) (of:=0) Jb.o HL.o (by rfl) ?_)
     | (refine yI underlying73 xX bg (by decide) (by decide) (by rfl) _ rfl (cs:=ot.map bv) (by simp [HL.o]) (by rfl) ?_)
     | (at_builtin;refine zj QG (base:=w.heap.size) (v:=.slice none 0 0) (n:=0) (m:=1) (news:=ot.map bv) (xs:=[]) (World.ownsRow_nil _ _ _ _) (zV w (ot.map bv) 32 1 _ _ rfl (by simp [HL.o]) (by decide)) (xu _) (by decide) (by decide) (by simp) (by rfl) _ _ rfl rfl rfl ?_;intro v6 w6 hown hk6 _ _;obtain⟨a6,c6,rfl,-,-⟩:=(Slc.of_row hown).form;have Gm:=qI hown;have Gi:=qI hk6;clear hown hk6)
    case roundEnd=>exact⟨.inr ⟨a6,c6,rfl,by go_num,qI (Slc.of_row Gm.o),qI (((zb.refl [] w).alloc _).trans Gi.o (by intro b hb;simp [Value.ownBlock] at hb))⟩,by simp [intOf]⟩
  ·go_wp2_with fail
   go_ret
   exact⟨⟨a,c,rfl,HS.o⟩,Gl.o⟩
set_option maxRecDepth 100000 in
theorem Way_any {w:World}{bk off cap:Nat}{x0 x1:List UInt8}(h0:x0.length=32) (h1:x1.length=32) (hs:Slc w 32 (.slice (some ⟨bk,off,none⟩) 2 cap) 2 ((x0 ++ x1).map bv)) (hks:xz w) (i:Nat) (hi:i < 2) :
  Calls Tryz.prog 108 #[.slice (some ⟨bk,off,none⟩) 2 cap,.int .i64 i] w fun e w'=>(∃ a c,e = .returned (.tuple #[.slice a 1 c,.int .i64 0])∧Slc w' 32 (.slice a 1 c) 1 ((Kk x0 x1 i).map bv))∧zb [] w w':=by
 have CL:=qI (KR h0 h1 hs hks)
 have CW:Hid (∀ w2 g cc,Lev2 w2 g x0 x1 (xC x0 x1)→2≤cc∧cc≤maxLen→Calls Tryz.prog 146 #[.slice (some ⟨g,0,none⟩) 2 cc,.int .i64 i] w2 fun e w'=>(∃ a c,e = .returned (.slice a 1 c)∧Slc w' 32 (.slice a 1 c) 1 ((Kk x0 x1 i).map bv))∧zb [] w2 w'):=qI (fun w2 g cc h hc=>way_any h0 h1 h hc i hi)
 have hi1:(i:Int) < 2:=by omega
 have hd:decide (2≤i)=false:=decide_eq_false (by omega)
 clear h0 h1 hs hks hi
 generalize Kk x0 x1 i=ot at CW ⊢
 generalize xC x0 x1=nd at CL CW
 go_enter func108,ntmps108
 go_wp2_with first
  | (go_at_call 74;refine CL.o.mono ?_;rintro e w2 ⟨⟨g,cc,rfl,hl,hc⟩,hk2⟩;have Ja:=qI hl;have Gy:=qI hc;have Ga:=qI hk2;clear hl hc hk2)
  | (go_at_call 146;refine (CW.o _ _ _ Ja.o Gy.o).mono ?_;rintro e w3 ⟨⟨a3,c3,rfl,hs3⟩,hk3⟩;have Jt:=qI hs3;have Ge:=qI hk3;clear hs3 hk3)
 go_ret2
 exact⟨⟨_,_,rfl,Jt.o⟩,Ga.o.then Ge.o⟩
open Go.Maps (Keyed)
def qq (P:Program) (w:World) (k b c:Nat) (M:Lit→Option Value):Prop:=
 ∃ D,w.ownsMap P k heldE b c D∧Maps.size D=c∧∀ kl,M kl=look D kl∧(Maps.has D kl=(M kl).isSome)
section
variable {P : Program} {w : World} {k b c : Nat} {M : Lit → Option Value}
theorem qq.at (h:qq P w k b c M):jF P w k b c M:=by
 obtain⟨D,h1,-,h3⟩:=h
 exact⟨D,h1,h3⟩
theorem qq.lt (h:qq P w k b c M):b < w.heap.size:=h.at.lt
theorem qq.kind (h:qq P w k b c M):kind w b=1:=h.at.kind
theorem qq.kept {X:List Nat}{w':World}(h:qq P w k b c M) (hk:zb X w w') (hb:b ∉ X):qq P w' k b c M:=by
 obtain⟨D,⟨es,clock,h1,h2⟩,hs,h3⟩:=h
 exact⟨D,⟨es,clock,hk.heap h1 hb,h2⟩,hs,h3⟩
theorem qq.kept0 {w':World}(h:qq P w k b c M) (hk:zb [] w w'):qq P w' k b c M:=h.kept hk (List.not_mem_nil)
theorem mapIs_made (P:Program) (w:World) (k:Nat):qq P (w.alloc (.map #[] 0)) k w.heap.size 0 (fun _=>none):=
 ⟨.map [],World.ownsMap_made _ _ _ _,rfl,fun kl=>⟨by simp [look,DataW.atKey],by simp [Maps.has]⟩⟩
theorem turned_kept {w':World}(h:w.mapTurned w' b):zb [b] w w'∧w'.heap.size=w.heap.size:=by
 refine⟨(zb.refl _ _).grown h.grown (fun k e=>by simp at e;simp [e]),?_⟩
 obtain⟨_,_,_,_,_,rfl⟩:=h
 simp [Go.ChangeMaps.setBlock]
theorem qq.update {t e:TypeId}(h:qq P w k b c M) (K:Keyed P k) (ht:P.underlying t=some (.map k e)) (hn:c < maxLen) {key:Value}{kl:Lit}(hkey:keyOf P k key=some kl) (val:Value) :
  ∃ w',(Instr.mapUpdate t (.map (some b)) key val).run P w = .ok () w'∧qq P w' k b (if (M kl).isSome then c else c + 1) (fun z=>if z.sameKey kl then some val else M z)∧zb [b] w w'∧w'.heap.size=w.heap.size:=by
 obtain⟨D,hown,hs,h3⟩:=h
 obtain⟨w',hrun,r1,r2⟩:=hown.store K ht hn hkey (val:=val) (R:=heldE) (d:=.held val) (ps:=[]) rfl
 have hsz:=Maps.size_put (k:=kl) (hown.tidy K) (.held val)
 rw [(h3 kl).2,hs] at hsz
 obtain⟨k1,k2⟩:=turned_kept r2
 refine⟨w',hrun,⟨_,?_,hsz,?_⟩,k1,k2⟩
 ·obtain⟨es,clock,hb,F,hle,e1⟩:=r1
  refine⟨es,clock,hb,F,?_,e1⟩
  rw [e1] at hsz
  rw [← hsz]
  simp [Maps.size,Go.length_sorted]
 ·intro z
  show (if z.sameKey kl then some val else M z)=look (D.put kl (.held val)) z∧Maps.has (D.put kl (.held val)) z=(if z.sameKey kl then some val else M z).isSome
  by_cases hz:z.sameKey kl=true
  ·have hz':=WideAt.sameKey_eq hz
   subst hz'
   rw [if_pos hz]
   refine⟨?_,Maps.has_put_same hown.isMap (vy K hkey) _⟩
   rw [look,Maps.atKey_put_same hown.isMap (vy K hkey)]
  ·have hne:z≠kl:=by
    intro e
    subst e
    exact hz (WideAt.sameKey_self (vy K hkey))
   rw [if_neg hz]
   exact⟨by rw [look,Maps.atKey_put_other hne];exact (h3 z).1,by rw [Maps.has_put_other hne];exact (h3 z).2⟩
end
attribute [local go_sem] Oper.semAt_some
theorem key_root {w:World}{g:Nat}{k:zP}(h:yt w g k):w.rangeAt g 2 (k.root.map bv):=fun j v hv=>by
 refine za h ?_
 rw [yi,List.getElem?_toArray,kT,show 2 + j=j + 1 + 1 by omega,List.getElem?_cons_succ,List.getElem?_cons_succ]
 exact hv
theorem yf.ofs {w:World}{g:Nat}{l:List UInt8}(h:yf w g l):w.rangeAt g 0 (l.map bv):=h.range
set_option maxRecDepth 100000 in
theorem K9 {w:World}(k:zP) (hbk:kx k.bits) (hr:k.root.length=32) (hmk:zK k=true) {am:Option Addr}{cm:Nat}{m:List UInt8}(hbm:zp w (.slice am m.length cm) m) (hm:m.length≤1048576)
  (s:SigS) (hlf:s.leaf≤1073741824) {nb nh:Nat}(hnb:k.bits=nb) (hnh:k.height=nh) (hn1:s.one.rev.length=nb) (hn2:s.one.oth.length=nb) (hn3:s.way.length=nh) (h31:yH s.one.rev) (h32:yH s.one.oth) (h33:yH s.way)
  {a1 a2 a3:Option Addr}{c1 c2 c3:Nat}(hs1:Slc w 32 (.slice a1 nb c1) nb (s.one.rev.flatten.map bv)) (hs2:Slc w 32 (.slice a2 nb c2) nb (s.one.oth.flatten.map bv)) (hs3:Slc w 32 (.slice a3 nh c3) nh (s.way.flatten.map bv)) (hks:xz w) :
  Calls Tryz.prog 102 #[.agg (yi k),.slice am m.length cm,.agg #[.int .i64 s.leaf,.slice a1 nb c1,.slice a2 nb c2,.slice a3 nh c3]] w fun e w'=>e = .returned (.bool (JA k.root m s))∧zb [] w w':=by
 obtain⟨W1,Gj⟩:∃ W1,Hid (W1=(w.alloc (.cells (yi k) 47)).alloc (.cells #[.int .i64 s.leaf,.slice a1 nb c1,.slice a2 nb c2,.slice a3 nh c3] 82)):=⟨_,qI rfl⟩
 have Gf:Hid (zb [] w W1):=qI (by rw [Gj.o];exact ((zb.refl _ w).alloc _).alloc _)
 have HA:Hid (yt W1 w.heap.size k):=qI (by rw [Gj.o];exact ((zb.refl [] _).alloc _).heap (zd rfl) (by simp))
 have Gk:Hid (Q6 W1 (w.heap.size + 1) s.leaf (.slice a1 nb c1) (.slice a2 nb c2) (.slice a3 nh c3)):=qI (by rw [Gj.o];exact zd (by simp))
 have hmb:yA nb=true∧nh≤6:=by
  unfold zK at hmk
  rw [hnb,hnh] at hmk
  simp only [Bool.and_eq_true,decide_eq_true_eq] at hmk
  exact⟨hmk.1,by omega⟩
 have CM:=qI (j0 k hbk W1)
 rw [hmk] at CM
 have Gs:=qI (hks.kept0 Gf.o)
 have CI:Hid (∀ w2,zb [] W1 w2→Calls Tryz.prog 137 #[.slice am m.length cm,.agg #[.slice a1 nb c1,.slice a2 nb c2]] w2 fun e w'=>e = .returned (.tuple #[.agg ((ko m s.one).map bv).toArray,.int .i64 0])∧zb [] w2 w'):=
  qI (fun w2 hk=>K3 ((hbm.kept0 Gf.o).kept0 hk) hm hn1 hn2 h31 h32 ((hs1.kept0 Gf.o).kept0 hk) ((hs2.kept0 Gf.o).kept0 hk) hmb.1 (Gs.o.kept0 hk))
 have CC:Hid (∀ w2,zb [] W1 w2→Calls Tryz.prog 138 #[.agg ((ko m s.one).map bv).toArray,.int .i64 s.leaf,.slice a3 nh c3] w2 fun e w'=>((s.leaf < 2 ^ nh∧e = .returned (.tuple #[.agg ((kJ (ko m s.one) s.leaf s.way).map bv).toArray,.int .i64 0]))∨(¬ s.leaf < 2 ^ nh∧e = .returned (.tuple #[.agg z32,.int .i64 1])))∧zb [] w2 w'):=
  qI (fun w2 hk=>climb_any (Zr _ _) s.leaf hlf h33 hn3 hmb.2 ((hs3.kept0 Gf.o).kept0 hk) (Gs.o.kept0 hk))
 have Gu:Hid ((ko m s.one).length=32):=qI (Zr _ _)
 have Jc:Hid ((kJ (ko m s.one) s.leaf s.way).length=32):=qI (KE _ _ _ (Zr _ _))
 have HV:Hid (JA k.root m s=(decide (s.leaf < 2 ^ nh) && decide (kJ (ko m s.one) s.leaf s.way=k.root))):=qI (by unfold JA;rw [hn3])
 have Ji:=qI hr
 have Jj:=qI (And.intro hnb hnh)
 clear hbk hr hmk hbm hm hlf hn1 hn2 hn3 h31 h32 h33 hs1 hs2 hs3 hks hmb hnb hnh
 generalize kJ (ko m s.one) s.leaf s.way=cl at CC Jc HV
 generalize ko m s.one=il at CI CC Gu
 generalize m.length=mn at CI
 generalize hsl:s.leaf=lf at Gj Gk CC HV ⊢
 clear hsl
 have kc0:=HA.o.c0
 have kc1:=HA.o.c1
 rw [Jj.o.1] at kc0
 rw [Jj.o.2] at kc1
 have s0:=za (o:=0) Gk.o rfl
 have s1:=za (o:=1) Gk.o rfl
 have s2:=za (o:=2) Gk.o rfl
 have s3:=za (o:=3) Gk.o rfl
 go_enter func102,ntmps102
 go_upto_region 1 with fail
 change Code.wp _ _ _ _ ((w.alloc (.cells (yi k) 47)).alloc (.cells #[.int .i64 lf,.slice a1 nb c1,.slice a2 nb c2,.slice a3 nh c3] 82))
 rw [← Gj.o]
 go_upto_region 3 with first
  | (refine zT (by rfl) (.tmp 3) (by rfl) HA.o Ji.o (by rfl) ?_)
  | (go_at_call 35;refine CM.o.mono ?_;rintro e w2 ⟨rfl,hk2⟩;have y0:=hk2.cell kc0 (by simp);have y1:=hk2.cell kc1 (by simp);have z0:=hk2.cell s0 (by simp);have z1:=hk2.cell s1 (by simp);have z2:=hk2.cell s2 (by simp);have z3:=hk2.cell s3 (by simp);have Ga:=qI hk2;clear hk2 kc0 kc1 s0 s1 s2 s3)
 go_upto_region 6 with first
  | (refine zu (by rfl) (.tmp 7) (.tmp 35) (by rfl) (g:=w3.heap.size) (l0:=xy zw 0) (zd rfl) (z6 _ _) Gu.o (by rfl) (by rfl) ?_;intro w4 h4 hk4;have Jk:=qI h4;have Gr:Hid (zb [] w3 w4):=qI (((zb.refl [] w3).alloc _).trans hk4 (by intro i hi;simp at hi;subst hi;exact .inr (Nat.le_refl _)));clear h4 hk4;simp only [Act.put])
  | (go_at_call 137;refine (CI.o _ Ga.o).mono ?_;rintro e w3 ⟨rfl,hk3⟩;have Ge:=qI (Ga.o.then hk3);clear hk3)
 have Gg:Hid (zb [] W1 w4):=qI (Ge.o.then Gr.o)
 have CD:=CC.o _ Gg.o
 have e0:=Gg.o.cell (za (o:=0) Gk.o rfl) (by simp)
 have e3:=Gg.o.cell (za (o:=3) Gk.o rfl) (by simp)
 clear y0 y1 z0 z1 z2 z3
 clear CM CI
 by_cases hlt:lf < 2 ^ nh
 ·have Jd:Hid (decide (lf < 2 ^ nh)=true):=qI (decide_eq_true hlt)
  have CG:Hid (Calls Tryz.prog 138 #[.agg (il.map bv).toArray,.int .i64 lf,.slice a3 nh c3] w4 fun e w'=>e = .returned (.tuple #[.agg (cl.map bv).toArray,.int .i64 0])∧zb [] w4 w'):=qI (CD.mono (fun e w' h=>⟨h.1.elim (fun h=>h.2) (fun h=>absurd hlt h.1),h.2⟩))
  clear CD hlt CC
  go_upto_region 7 with first
   | (refine yz (by rfl) (.tmp 7) (by rfl) Jk.o Gu.o (by rfl) ?_)
   | (refine zu (by rfl) (.tmp 9) (.tmp 46) (by rfl) (g:=w5.heap.size) (l0:=xy zw 0) (zd rfl) (z6 _ _) Jc.o (by rfl) (by rfl) ?_;intro w6 h6 hk6;have Ju:=qI h6;have Gi:Hid (zb [] w5 w6):=qI (((zb.refl [] w5).alloc _).trans hk6 (by intro i hi;simp at hi;subst hi;exact .inr (Nat.le_refl _)));clear h6 hk6;simp only [Act.put])
   | (go_at_call 138;refine CG.o.mono ?_;rintro e w5 ⟨rfl,hk5⟩;have Gn:=qI (Gg.o.then hk5);clear hk5)
  have Gh:Hid (zb [] W1 w6):=qI (Gn.o.then Gi.o)
  have CS:Hid (∀ w7,zb [] w6 w7→Calls Tryz.prog 139 #[.slice (some ⟨w5.heap.size,0,none⟩) 32 32,.slice (some ⟨w.heap.size,2,none⟩) 32 32] w7 fun e w'=>e = .returned (.bool (decide (cl=k.root)))∧zb [] w7 w'):=
   qI (fun w7 hk=>octSame_any Jc.o Ji.o ((Ju.o.kept0 hk).ofs) (key_root ((HA.o.kept0 Gh.o).kept0 hk)))
  generalize decide (cl=k.root)=res at CS HV
  have Jw:=qI (HA.o.kept0 Gh.o).c0
  clear e0 e3
  go_wp2
  refine zZ (n:=56) 8 [zg.is (.int .i64 0),
   zg.is (.bool true),
   zg.is (.bool true),
   zg.is (.slice (some ⟨w5.heap.size,0,none⟩) 32 32),
   zg.is (.pointer (some ⟨w.heap.size,2,none⟩)),
   zg.is (.slice (some ⟨w.heap.size,2,none⟩) 32 32),
   zg.is (.bool res),
   zg.is (.bool res)] (by kernel_rfl) rfl (by kernel_rfl) (fun x=>by simp only [List.map,yM,Act.put,List.setIfInBounds_toArray,List.set_cons_zero,List.set_cons_succ];rfl) ?_ ?_
  ·refine⟨fun x w2 hkw b hd=>?_,fun x w2 hkw b hd=>?_,fun x w2 hkw b hd=>?_,fun x w2 hkw b hd=>?_,fun x w2 hkw b hd=>?_,fun x w2 hkw b hd=>?_,fun x w2 hkw b hd=>?_,fun x w2 hkw b hd=>?_,trivial⟩
   ·go_wp2_with fail
    exact⟨rfl,zb.refl _ _⟩
   ·have d0:x 0=_:=hd 0 (by kernel_rfl)
    go_wp2_with fail
    exact⟨rfl,zb.refl _ _⟩
   ·have d1:x 1=_:=hd 1 (by kernel_rfl)
    go_wp2_with fail
    exact⟨rfl,zb.refl _ _⟩
   ·have d2:x 2=_:=hd 2 (by kernel_rfl)
    go_wp2_with fail
    exact⟨rfl,zb.refl _ _⟩
   ·have d2:x 2=_:=hd 2 (by kernel_rfl)
    go_wp2_with fail
    exact⟨rfl,zb.refl _ _⟩
   ·have d2:x 2=_:=hd 2 (by kernel_rfl)
    have d4:x 4=_:=hd 4 (by kernel_rfl)
    go_wp2_with fail
    exact⟨rfl,zb.refl _ _⟩
   ·have d2:x 2=_:=hd 2 (by kernel_rfl)
    have d3:x 3=_:=hd 3 (by kernel_rfl)
    have d5:x 5=_:=hd 5 (by kernel_rfl)
    have d2:x 2=_:=hd 2 (by kernel_rfl)
    have d3:x 3=_:=hd 3 (by kernel_rfl)
    have d5:x 5=_:=hd 5 (by kernel_rfl)
    have CX:=CS.o _ hkw
    go_wp2_with (go_at_call 139;refine CX.mono ?_;rintro e w5 ⟨rfl,hk5⟩;have Gn:=qI hk5;clear hk5)
    exact⟨rfl,Gn.o⟩
   ·have d2:x 2=_:=hd 2 (by kernel_rfl)
    have d6:x 6=_:=hd 6 (by kernel_rfl)
    go_wp2_with fail
    exact⟨rfl,zb.refl _ _⟩
  ·intro x w17 hkw b17 hd hwin
   have d7:x 7=_:=hd 7 (by decide)
   have Gl:=qI hkw
   clear hd hwin hkw
   change wpList _ _ _ [_] _ _
   go_wp2_with fail
   go_ret
   exact⟨by rw [HV.o,Jd.o];exact congrArg Ending.returned d7,Gf.o.then (Gh.o.then Gl.o)⟩
 ·have Jd:Hid (decide (lf < 2 ^ nh)=false):=qI (decide_eq_false hlt)
  have CG:Hid (Calls Tryz.prog 138 #[.agg (il.map bv).toArray,.int .i64 lf,.slice a3 nh c3] w4 fun e w'=>e = .returned (.tuple #[.agg z32,.int .i64 1])∧zb [] w4 w'):=qI (CD.mono (fun e w' h=>⟨h.1.elim (fun h=>absurd h.1 hlt) (fun h=>h.2),h.2⟩))
  clear CD hlt CC
  go_upto_region 7 with first
   | (refine yz (by rfl) (.tmp 7) (by rfl) Jk.o Gu.o (by rfl) ?_)
   | (refine zu (by rfl) (.tmp 9) (.tmp 46) (by rfl) (g:=w5.heap.size) (l:=List.replicate 32 0) (l0:=xy zw 0) (zd rfl) (z6 _ _) (by rfl) (by rfl) (by rfl) ?_;intro w6 h6 hk6;have Gi:Hid (zb [] w5 w6):=qI (((zb.refl [] w5).alloc _).trans hk6 (by intro i hi;simp at hi;subst hi;exact .inr (Nat.le_refl _)));clear h6 hk6;simp only [Act.put])
   | (go_at_call 138;refine CG.o.mono ?_;rintro e w5 ⟨rfl,hk5⟩;have Gn:=qI (Gg.o.then hk5);clear hk5)
  have Gh:Hid (zb [] W1 w6):=qI (Gn.o.then Gi.o)
  clear e0 e3
  go_wp2
  refine zZ (n:=56) 8 [zg.is (.int .i64 1),
   zg.is (.bool false),
   zg.is (.bool false),
   zg.is (undef),
   zg.is (undef),
   zg.is (undef),
   zg.is (undef),
   zg.is (.bool false)] (by kernel_rfl) rfl (by kernel_rfl) (fun x=>by simp only [List.map,yM,Act.put,List.setIfInBounds_toArray,List.set_cons_zero,List.set_cons_succ];rfl) ?_ ?_
  ·refine⟨fun x w2 hkw b hd=>?_,fun x w2 hkw b hd=>?_,fun x w2 hkw b hd=>?_,fun x w2 hkw b hd=>?_,fun x w2 hkw b hd=>?_,fun x w2 hkw b hd=>?_,fun x w2 hkw b hd=>?_,fun x w2 hkw b hd=>?_,trivial⟩
   ·go_wp2_with fail
    exact⟨rfl,zb.refl _ _⟩
   ·have d0:x 0=_:=hd 0 (by kernel_rfl)
    go_wp2_with fail
    exact⟨rfl,zb.refl _ _⟩
   ·have d1:x 1=_:=hd 1 (by kernel_rfl)
    go_wp2_with fail
    exact⟨rfl,zb.refl _ _⟩
   ·have d2:x 2=_:=hd 2 (by kernel_rfl)
    go_wp2_with fail
    exact⟨rfl,zb.refl _ _⟩
   ·have d2:x 2=_:=hd 2 (by kernel_rfl)
    go_wp2_with fail
    exact⟨rfl,zb.refl _ _⟩
   ·have d2:x 2=_:=hd 2 (by kernel_rfl)
    have d4:x 4=_:=hd 4 (by kernel_rfl)
    go_wp2_with fail
    exact⟨rfl,zb.refl _ _⟩
   ·have d2:x 2=_:=hd 2 (by kernel_rfl)
    have d3:x 3=_:=hd 3 (by kernel_rfl)
    have d5:x 5=_:=hd 5 (by kernel_rfl)
    go_wp2_with fail
    exact⟨rfl,zb.refl _ _⟩
   ·have d2:x 2=_:=hd 2 (by kernel_rfl)
    have d6:x 6=_:=hd 6 (by kernel_rfl)
    go_wp2_with fail
    exact⟨rfl,zb.refl _ _⟩
  ·intro x w17 hkw b17 hd hwin
   have d7:x 7=_:=hd 7 (by decide)
   have Gl:=qI hkw
   clear hd hwin hkw
   change wpList _ _ _ [_] _ _
   go_wp2_with fail
   go_ret
   exact⟨by rw [HV.o,Jd.o];exact congrArg Ending.returned d7,Gf.o.then (Gh.o.then Gl.o)⟩
def kindE:(n:Nat)→V n→Int
 | 0,_=>0
 | _ + 1,(v:VS (V _))=>v.kind
theorem Rep.kindE:∀ {n:Nat}{S:Nat→Prop}{w:World}{k m:Int}{s:ByteArray}{a b:Value}{x:V n},Rep n S w [.int .i64 k,.int .i64 m,.string s,a,b] x→k=Go.Proofs.YtibnfbglanpoiaaGreatDoor.kindE n x
 | 0,_,_,_,_,_,_,_,x,_=>nomatch x
 | n + 1,S,w,k,m,s,a,b,x,h=>by
  obtain⟨vl,vm,lcs,mcs,ho⟩:=Rep.open_ h
  have e:=ho.cells
  simp only [List.cons.injEq,Value.int.injEq,true_and] at e
  exact e.1
def zW (n:Nat) (v:V n) (l:List yh):Bool:=decide (kindE n v=6) && (decide (yC n v=0) && (decide (zy n v < 12) && (decide (l.length≤16) && l.all yK)))
def qi (n:Nat) (v:V n) (l:List yh):List UInt8:=if zW n v l=true then (kG n v).1 else []
structure Env (n:Nat) (S:Nat→Prop) (w:World) (cs:List Value) (v:V n) (a:Option Addr) (c:Nat) (l:List yh):Prop where
 rep:Rep n S w cs v
 small:yk n v
 deep:n≤100
 rows:xZ w (.slice a l.length c) l
 texts:∀ r,r ∈ l→r.small
 few:l.length≤1000000
theorem Env.kept0 {n:Nat}{S:Nat→Prop}{w w':World}{cs:List Value}{v:V n}{a:Option Addr}{c:Nat}{l:List yh}(h:Env n S w cs v a c l) (k:zb [] w w'):Env n S w' cs v a c l:=
 ⟨h.rep.kept0 k,h.small,h.deep,h.rows.kept0 k,h.texts,h.few⟩
def vt (cs:List Value) (a:Option Addr) (m c:Nat):List Value:=cs ++ [.slice a m c]
theorem valDepth_any {n:Nat}{v:V n}{S:Nat→Prop}{w:World}{cs:List Value}(h:Rep n S w cs v) (hs:yk n v) (hn:n≤100) (ht:ql w) :
  Calls Tryz.prog 56 #[.agg cs.toArray] w fun e w'=>e = .returned (.int .i64 (zy n v))∧zb [] w w':=by
 obtain⟨kd,nm,st,p1,i1,d1,p2,i2,d2,rfl⟩:=h.conv
 obtain⟨W0,Gc⟩:∃ W0,Hid (W0=w.alloc (.cells #[.int .i64 kd,.int .i64 nm,.string st,.slice p1 i1 d1,.slice p2 i2 d2] 25)):=⟨_,qI rfl⟩
 have Gd:Hid (zb [] w W0):=qI (by rw [Gc.o];exact (zb.refl [] w).alloc _)
 have Gb:Hid (W0.heap[w.heap.size]? = some (.cells #[.int .i64 kd,.int .i64 nm,.string st,.slice p1 i1 d1,.slice p2 i2 d2] 25 (0,0))):=qI (by rw [Gc.o];exact zd rfl)
 have CL:=qI (look_any (h.kept0 Gd.o) hs hn (ht.kept0 Gd.o))
 clear h hs ht
 have c0:=za (o:=0) Gb.o rfl
 have c1:=za (o:=1) Gb.o rfl
 have c2:=za (o:=2) Gb.o rfl
 have c3:=za (o:=3) Gb.o rfl
 have c4:=za (o:=4) Gb.o rfl
 generalize zy n v=D at CL
 generalize zt n v=C at CL
 generalize zo n v=R at CL
 go_enter func56,ntmps56
 go_upto_region 1 with fail
 change Code.wp _ _ _ _ (w.alloc (.cells #[.int .i64 kd,.int .i64 nm,.string st,.slice p1 i1 d1,.slice p2 i2 d2] 25))
 rw [← Gc.o]
 go_wp2_with (go_at_call 97;refine CL.o.mono ?_;rintro e w1 ⟨⟨b,rfl,hb⟩,hk⟩;have HK:=qI hk;have y0:=za (o:=0) (v:=.int .i64 D) hb rfl;clear hk hb)
 go_ret
 exact⟨rfl,Gd.o.then HK.o⟩
theorem bp {n:Nat}{S:Nat→Prop}{w:World}{cs:List Value}{v:V n}{a:Option Addr}{c:Nat}{l:List yh}(h:Env n S w cs v a c l) (ht:ql w) :
  Calls Tryz.prog 25 #[.agg (vt cs a l.length c).toArray] w fun e w'=>e = .returned (.bool (zW n v l))∧zb [] w w':=by
 obtain⟨kd,nm,st,p1,i1,d1,p2,i2,d2,rfl⟩:=h.rep.conv
 obtain⟨W0,Gc⟩:∃ W0,Hid (W0=w.alloc (.cells #[.int .i64 kd,.int .i64 nm,.string st,.slice p1 i1 d1,.slice p2 i2 d2,.slice a l.length c] 28)):=⟨_,qI rfl⟩
 have Gd:Hid (zb [] w W0):=qI (by rw [Gc.o];exact (zb.refl [] w).alloc _)
 have Gb:Hid (W0.heap[w.heap.size]? = some (.cells #[.int .i64 kd,.int .i64 nm,.string st,.slice p1 i1 d1,.slice p2 i2 d2,.slice a l.length c] 28 (0,0))):=qI (by rw [Gc.o];exact zd rfl)
 have HE:=qI (h.kept0 Gd.o)
 have HT:=qI (ht.kept0 Gd.o)
 have CC:Hid (∀ w2,zb [] W0 w2→Calls Tryz.prog 55 #[.agg #[.int .i64 kd,.int .i64 nm,.string st,.slice p1 i1 d1,.slice p2 i2 d2]] w2 fun e w'=>e = .returned (.int .i64 (yC n v))∧zb [] w2 w'):=qI (fun w2 hk=>Y2 (HE.o.rep.kept0 hk) HE.o.small HE.o.deep (HT.o.kept0 hk))
 have CD:Hid (∀ w2,zb [] W0 w2→Calls Tryz.prog 56 #[.agg #[.int .i64 kd,.int .i64 nm,.string st,.slice p1 i1 d1,.slice p2 i2 d2]] w2 fun e w'=>e = .returned (.int .i64 (zy n v))∧zb [] w2 w'):=qI (fun w2 hk=>valDepth_any (HE.o.rep.kept0 hk) HE.o.small HE.o.deep (HT.o.kept0 hk))
 have CN:Hid (∀ w2,zb [] W0 w2→Calls Tryz.prog 57 #[.slice a l.length c,.func (.func 58) #[] #[]] w2 fun e w'=>e = .returned (.bool (!(l.all yK)))∧zb [] w2 w'):=qI (fun w2 hk=>noRows_any (HE.o.rows.kept0 hk) HE.o.texts HE.o.few)
 have HM:Hid (zW n v l=(decide (kd=6) && (decide (yC n v=0) && (decide (zy n v < 12) && (decide (l.length≤16) && l.all yK))))):=qI (by unfold zW;rw [← HE.o.rep.kindE])
 have hdm:zy n v≤100:=Nat.le_trans (kb n v) h.deep
 have hlm:=h.few
 clear h ht
 generalize zW n v l=M at HM
 generalize yC n v=K at CC HM
 generalize zy n v=D at CD HM hdm
 generalize l.all yK=R at CN HM
 generalize l.length=m at Gc Gb CN HM hlm ⊢
 have hdI:(D:Int)≤100:=by omega
 have hmI:(m:Int)≤1000000:=by omega
 have c0:=za (o:=0) Gb.o rfl
 have c1:=za (o:=1) Gb.o rfl
 have c2:=za (o:=2) Gb.o rfl
 have c3:=za (o:=3) Gb.o rfl
 have c4:=za (o:=4) Gb.o rfl
 have c5:=za (o:=5) Gb.o rfl
 show Calls _ _ #[.agg #[.int .i64 kd,.int .i64 nm,.string st,.slice p1 i1 d1,.slice p2 i2 d2,.slice a m c]] _ _
 by_cases h6:kd=6
 rotate_left
 ·obtain⟨f1,f2⟩:=yx h6
  rw [decide_eq_false h6] at HM
  clear h6
  go_enter func25,ntmps25
  go_upto_region 1 with fail
  change Code.wp _ _ _ _ (w.alloc (.cells #[.int .i64 kd,.int .i64 nm,.string st,.slice p1 i1 d1,.slice p2 i2 d2,.slice a m c] 28))
  rw [← Gc.o]
  go_wp2_with fail
  go_ret
  exact⟨by rw [HM.o];rfl,Gd.o⟩
 rw [decide_eq_true h6] at HM
 subst h6
 by_cases hc:K=0
 rotate_left
 ·obtain⟨f1,f2⟩:=yx hc
  rw [decide_eq_false hc] at HM
  clear hc
  go_enter func25,ntmps25
  go_upto_region 1 with fail
  change Code.wp _ _ _ _ (w.alloc (.cells #[.int .i64 6,.int .i64 nm,.string st,.slice p1 i1 d1,.slice p2 i2 d2,.slice a m c] 28))
  rw [← Gc.o]
  go_wp2_with (go_at_call 55;refine (CC.o _ (zb.refl _ _)).mono ?_;rintro e w1 ⟨rfl,hk⟩;have HK:=qI hk;clear hk)
  go_ret
  exact⟨by rw [HM.o];rfl,Gd.o.then HK.o⟩
 rw [decide_eq_true hc] at HM
 subst hc
 by_cases hd:D < 12
 rotate_left
 ·have hdI2:(12:Int)≤D:=by omega
  rw [decide_eq_false hd] at HM
  clear hd
  go_enter func25,ntmps25
  go_upto_region 1 with fail
  change Code.wp _ _ _ _ (w.alloc (.cells #[.int .i64 6,.int .i64 nm,.string st,.slice p1 i1 d1,.slice p2 i2 d2,.slice a m c] 28))
  rw [← Gc.o]
  go_upto_region 3 with (go_at_call 55;refine (CC.o _ (zb.refl _ _)).mono ?_;rintro e w1 ⟨rfl,hk⟩;have y0:=hk.cell c0 (by simp);have y1:=hk.cell c1 (by simp);have y2:=hk.cell c2 (by simp);have y3:=hk.cell c3 (by simp);have y4:=hk.cell c4 (by simp);have HK:=qI hk;clear hk c0 c1 c2 c3 c4 c5)
  go_wp2_with (go_at_call 56;refine (CD.o _ HK.o).mono ?_;rintro e w2 ⟨rfl,hk⟩;have Ga:=qI hk;clear hk)
  go_ret
  exact⟨by rw [HM.o];rfl,Gd.o.then (HK.o.then Ga.o)⟩
 have hdI2:(D:Int) < 12:=by omega
 rw [decide_eq_true hd] at HM
 clear hd
 by_cases hm:m≤16
 rotate_left
 ·have hmI2:(16:Int) < m:=by omega
  rw [decide_eq_false hm] at HM
  clear hm
  go_enter func25,ntmps25
  go_upto_region 1 with fail
  change Code.wp _ _ _ _ (w.alloc (.cells #[.int .i64 6,.int .i64 nm,.string st,.slice p1 i1 d1,.slice p2 i2 d2,.slice a m c] 28))
  rw [← Gc.o]
  go_upto_region 3 with (go_at_call 55;refine (CC.o _ (zb.refl _ _)).mono ?_;rintro e w1 ⟨rfl,hk⟩;have y0:=hk.cell c0 (by simp);have y1:=hk.cell c1 (by simp);have y2:=hk.cell c2 (by simp);have y3:=hk.cell c3 (by simp);have y4:=hk.cell c4 (by simp);have y5:=hk.cell c5 (by simp);have HK:=qI hk;clear hk c0 c1 c2 c3 c4 c5)
  go_wp2_with (go_at_call 56;refine (CD.o _ HK.o).mono ?_;rintro e w2 ⟨rfl,hk⟩;have x5:=hk.cell y5 (by simp);have Ga:=qI hk;clear hk y0 y1 y2 y3 y4 y5)
  go_ret
  exact⟨by rw [HM.o];rfl,Gd.o.then (HK.o.then Ga.o)⟩
 have hmI2:(m:Int)≤16:=by omega
 rw [decide_eq_true hm] at HM
 clear hm
 go_enter func25,ntmps25
 go_upto_region 1 with fail
 change Code.wp _ _ _ _ (w.alloc (.cells #[.int .i64 6,.int .i64 nm,.string st,.slice p1 i1 d1,.slice p2 i2 d2,.slice a m c] 28))
 rw [← Gc.o]
 go_upto_region 3 with (go_at_call 55;refine (CC.o _ (zb.refl _ _)).mono ?_;rintro e w1 ⟨rfl,hk⟩;have y0:=hk.cell c0 (by simp);have y1:=hk.cell c1 (by simp);have y2:=hk.cell c2 (by simp);have y3:=hk.cell c3 (by simp);have y4:=hk.cell c4 (by simp);have y5:=hk.cell c5 (by simp);have HK:=qI hk;clear hk c0 c1 c2 c3 c4 c5)
 go_upto_region 5 with (go_at_call 56;refine (CD.o _ HK.o).mono ?_;rintro e w2 ⟨rfl,hk⟩;have x5:=hk.cell y5 (by simp);have Ga:=qI (HK.o.then hk);clear hk y0 y1 y2 y3 y4 y5)
 go_wp2_with (go_at_call 57;refine (CN.o _ Ga.o).mono ?_;rintro e w3 ⟨rfl,hk⟩;have Ge:=qI hk;clear hk)
 go_ret
 exact⟨by rw [HM.o];cases R <;> rfl,Gd.o.then (Ga.o.then Ge.o)⟩
theorem body_any {n:Nat}{S:Nat→Prop}{w:World}{cs:List Value}{v:V n}{a:Option Addr}{c:Nat}{l:List yh}(h:Env n S w cs v a c l) (ht:ql w) :
  Calls Tryz.prog 40 #[.agg (vt cs a l.length c).toArray] w fun e w'=>(∃ q d,e = .returned (.slice q (qi n v l).length d)∧zp w' (.slice q (qi n v l).length d) (qi n v l))∧zb [] w w':=by
 obtain⟨kd,nm,st,p1,i1,d1,p2,i2,d2,rfl⟩:=h.rep.conv
 obtain⟨W0,Gc⟩:∃ W0,Hid (W0=w.alloc (.cells #[.int .i64 kd,.int .i64 nm,.string st,.slice p1 i1 d1,.slice p2 i2 d2,.slice a l.length c] 28)):=⟨_,qI rfl⟩
 have Gd:Hid (zb [] w W0):=qI (by rw [Gc.o];exact (zb.refl [] w).alloc _)
 have Gb:Hid (W0.heap[w.heap.size]? = some (.cells #[.int .i64 kd,.int .i64 nm,.string st,.slice p1 i1 d1,.slice p2 i2 d2,.slice a l.length c] 28 (0,0))):=qI (by rw [Gc.o];exact zd rfl)
 have HE:=qI (h.kept0 Gd.o)
 have HT:=qI (ht.kept0 Gd.o)
 have CM:Hid (Calls Tryz.prog 25 #[.agg #[.int .i64 kd,.int .i64 nm,.string st,.slice p1 i1 d1,.slice p2 i2 d2,.slice a l.length c]] W0 fun e w'=>e = .returned (.bool (zW n v l))∧zb [] W0 w'):=qI (by have h1:=bp HE.o HT.o;exact h1)
 have CE:Hid (∀ w2,zb [] W0 w2→Calls Tryz.prog 78 #[.agg #[.int .i64 kd,.int .i64 nm,.string st,.slice p1 i1 d1,.slice p2 i2 d2]] w2 fun e w'=>(∃ a c,e = .returned (.tuple #[.slice a (kG n v).1.length c,.int .i64 (kG n v).2])∧zp w' (.slice a (kG n v).1.length c) (kG n v).1)∧zb [] w2 w'):=qI (fun w2 hk=>ZQ (HE.o.rep.kept0 hk) HE.o.small HE.o.deep (HT.o.kept0 hk))
 have HB:Hid (qi n v l=if zW n v l=true then (kG n v).1 else []):=qI (by unfold qi;rfl)
 clear h ht
 generalize zW n v l=M at CM HB
 generalize qi n v l=B at HB ⊢
 generalize (kG n v).1=E at CE HB
 generalize (kG n v).2=Z at CE
 generalize l.length=m at Gc Gb CM ⊢
 have c0:=za (o:=0) Gb.o rfl
 have c1:=za (o:=1) Gb.o rfl
 have c2:=za (o:=2) Gb.o rfl
 have c3:=za (o:=3) Gb.o rfl
 have c4:=za (o:=4) Gb.o rfl
 have c5:=za (o:=5) Gb.o rfl
 show Calls _ _ #[.agg #[.int .i64 kd,.int .i64 nm,.string st,.slice p1 i1 d1,.slice p2 i2 d2,.slice a m c]] _ _
 cases M with
 | false=>
  go_enter func40,ntmps40
  go_upto_region 1 with fail
  change Code.wp _ _ _ _ (w.alloc (.cells #[.int .i64 kd,.int .i64 nm,.string st,.slice p1 i1 d1,.slice p2 i2 d2,.slice a m c] 28))
  rw [← Gc.o]
  go_wp2_with (go_at_call 25;refine CM.o.mono ?_;rintro e w1 ⟨rfl,hk⟩;have HK:=qI hk;clear hk)
  go_ret
  rw [HB.o]
  exact⟨⟨_,_,rfl,xn _ _⟩,Gd.o.then HK.o⟩
 | true=>
  go_enter func40,ntmps40
  go_upto_region 1 with fail
  change Code.wp _ _ _ _ (w.alloc (.cells #[.int .i64 kd,.int .i64 nm,.string st,.slice p1 i1 d1,.slice p2 i2 d2,.slice a m c] 28))
  rw [← Gc.o]
  go_upto_region 3 with (go_at_call 25;refine CM.o.mono ?_;rintro e w1 ⟨rfl,hk⟩;have y0:=hk.cell c0 (by simp);have y1:=hk.cell c1 (by simp);have y2:=hk.cell c2 (by simp);have y3:=hk.cell c3 (by simp);have y4:=hk.cell c4 (by simp);have HK:=qI hk;clear hk c0 c1 c2 c3 c4 c5)
  go_wp2_with (go_at_call 78;refine (CE.o _ HK.o).mono ?_;rintro e w2 ⟨⟨q,d,rfl,hb⟩,hk⟩;have Ga:=qI hk;have Jv:=qI hb;clear hk hb)
  go_ret
  rw [HB.o]
  exact⟨⟨_,_,rfl,Jv.o⟩,Gd.o.then (HK.o.then Ga.o)⟩
end Go.Proofs.YtibnfbglanpoiaaGreatDoor

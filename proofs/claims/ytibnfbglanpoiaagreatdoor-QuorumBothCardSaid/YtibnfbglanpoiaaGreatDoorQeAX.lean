/- Parts of one proof, merged: XFL XFM. -/
import Derived.Test.YtibnfbglanpoiaaGreatDoorQeAW
import Derived.Test.YtibnfbglanpoiaaGreatDoorQeAH
set_option linter.all false
set_option maxHeartbeats 12800000
set_option maxRecDepth 100000
namespace Go.Proofs.YtibnfbglanpoiaaGreatDoor
open Go.Proofs.Tryz
open Go.RowKit
attribute [local go_sem] Oper.semAt_some
theorem wpList_loadKg {ops:Array Oper}{rest:List Oper}{op:Oper}{a:Act}{w:World}{Q:Exit→Act→World→Prop}(hw:Region.wanted op (yielded ops a.tmps)=true) (x:Operand) (ho:op.op = .load 47 x) {g of:Nat}{k:zY}(h0:w.rangeAt g of (kz k)) (hl:k.root.length=32)
  (hx:a.eval x = .pointer (some ⟨g,of,none⟩)) (h:wpList Tryz.prog ops Q rest (a.put op.dst (.agg (ye k))) w):wpList Tryz.prog ops Q (op::rest) a w:=
 BigFrame.wpList_want hw fun _ hK=>wp_load_mid 47 x ho g of hx (kz k) _ h0 underlying47 rfl (by rw [xE hl];exact YM) (hK _ _ h)
theorem noId_id:qo Y2=false:=by
 unfold qo
 have h:yJ Y2=some []:=rfl
 rw [h];rfl
theorem holds_id {n:Nat}{v:V n}{l:List yr}{r:yr}{k:zY}(hr:r∈l) (h:qg n v l r k=true):r.id≠Y2:=by
 intro e
 unfold qg yj at h
 simp only [Bool.and_eq_true,List.all_eq_true] at h
 have h1:=h.1.2.2.2.2 r hr
 unfold yX at h1
 simp only [Bool.and_eq_true] at h1
 rw [e,noId_id] at h1
 cases h1.1
theorem signs_doc {n:Nat}{v:V n}{l:List yr}{keys:List xW}{id:ByteArray}:xo n v l keys id=match qG keys id with | none=>false | some r=>decide (yh r.key=id)&&l.any (z7 n v l id r.key):=by
 unfold xo
 cases qG keys id with
 | none=>rfl
 | some r=>
  show (!(decide (id=Y2))&&(decide (yh r.key=id)&&l.any (z7 n v l id r.key)))=(decide (yh r.key=id)&&l.any (z7 n v l id r.key))
  by_cases hz:id=Y2
  ·have h:l.any (z7 n v l id r.key)=false:=by
    rw [List.any_eq_false]
    intro x hx h9
    unfold z7 at h9
    simp only [Bool.and_eq_true,decide_eq_true_eq] at h9
    exact holds_id hx h9.2 (h9.1.trans hz)
   rw [h];simp
  ·simp [hz]
theorem find_drop {keys:List xW}{id:ByteArray}{i:Nat}(hi:i<keys.length):qG (keys.drop i) id=if keys[i].id=id then some keys[i] else qG (keys.drop (i+1)) id:=by
 rw [List.drop_eq_getElem_cons hi]
 unfold qG
 rw [List.find?_cons]
 by_cases h:keys[i].id=id
 ·simp [h]
 ·simp [h]
theorem refSigns_any {n:Nat}{S:Nat→Prop}{w:World}{cs:List Value}{v:V n}{a:Option Addr}{c:Nat}{l:List yr}(h:Env n S w cs v a c l) (id:ByteArray) {a2:Option Addr}{c2:Nat}{keys:List xW}(hk:xP w (.slice a2 keys.length c2) keys) :
  CL w 53 #[.agg (vG cs a l.length c).toArray,.string id,.slice a2 keys.length c2] (.bool (xo n v l keys id)):=by
 obtain⟨kd,nm,st,p1,i1,d1,p2,i2,d2,rfl⟩:=h.rep.conv
 obtain⟨W1,Ga⟩:∃ W1,Hid (W1=w.alloc (.cells #[.int .i64 kd,.int .i64 nm,.string st,.slice p1 i1 d1,.slice p2 i2 d2,.slice a l.length c] 28)):=⟨_,qI rfl⟩
 have Gb:Hid (zb [] w W1):=qI (kA1 Ga.o)
 have Jl:Hid (W1.heap[w.heap.size]? = some (.cells #[.int .i64 kd,.int .i64 nm,.string st,.slice p1 i1 d1,.slice p2 i2 d2,.slice a l.length c] 28 (0,0))):=qI (by rw [Ga.o];exact zd rfl)
 have HE:=qI (h.kept0 Gb.o)
 have Je:=qI (hk.kept0 Gb.o)
 have HS:Hid (xo n v l keys id=match qG keys id with | none=>false | some r=>decide (yh r.key=id)&&l.any (z7 n v l id r.key)):=qI signs_doc
 have hmI:(l.length:Int)≤1000000:=by have:=h.few;omega
 have hkI:(keys.length:Int)≤1000000:=by have:=hk.few;omega
 clear h hk
 generalize xo n v l keys id=res at HS ⊢
 generalize hkn:keys.length=kn at hkI ⊢
 have Jm:=qI hkn
 clear hkn
 generalize hm:l.length=m at hmI Ga Jl ⊢
 have Jf:=qI hm
 clear hm
 show Calls _ _ #[.agg #[.int .i64 kd,.int .i64 nm,.string st,.slice p1 i1 d1,.slice p2 i2 d2,.slice a m c],.string id,.slice a2 kn c2] _ _
 go_enter func53,ntmps53
 go_upto_region 1 with fail
 refine yq Ga.o ?_
 go_wp2_with fail
 go_loopw [7,8] (fun iv _ wr=>∃ i:Nat,iv = .int .i64 i∧i≤kn∧qG keys id=qG (keys.drop i) id∧zb [] W1 wr) (fun iv _ _=>kn-(intOf iv).toNat)
 case atStart=>exact⟨0,rfl,Nat.zero_le _,rfl,Wd⟩
 case round=>
  obtain⟨i,rfl,hi,hfd,hkr⟩:=hrel
  have Jg:=qI hfd
  have Gc:=qI hkr
  clear hfd hkr
  rcases Nat.lt_or_ge i kn with hlt | hge
  ·have hiI:(i:Int)<kn:=by omega
   have hil:i<keys.length:=by rw [Jm.o];exact hlt
   have Gl:=qI hlt
   obtain⟨g,o,rfl,-,hcell⟩:=(show xP W1 (.slice a2 keys.length c2) keys from Je.o).cells Ws
   have hid0:wr.cell? ⟨g,o+i*35,none⟩=some (.string keys[i].id):=Gc.o.cell (hcell i hil 0 _ rfl) Wz
   have Gf:Hid (W1.rangeAt g (o+i*35+1) (kz keys[i].key)):=qI (fun j u hu=>by
    have h2:=hcell i hil (j+1) u hu
    rw [show o+i*35+(j+1)=o+i*35+1+j by omega] at h2
    exact h2)
   have Gm:=qI (Je.o.fine _ (List.getElem_mem hil))
   have Gq:=qI (find_drop (id:=id) hil)
   generalize keys[i]=r at hid0 Gf Gm Gq
   clear hcell hil hlt hi
   by_cases he:r.id=id
   rotate_left
   ·obtain⟨f1,f2⟩:=ke he
    have Jt:Hid (qG keys id=qG (keys.drop (i+1)) id):=qI (by rw [Jg.o,Gq.o,if_neg he])
    clear he
    go_wp2_with fail
    case roundEnd=>exact⟨⟨i+1,by go_num,by have:=Gl.o;omega,Jt.o,Gc.o⟩,by have:=Gl.o;simp [intOf];omega⟩
   obtain⟨f1,f2⟩:=ky he
   have Gi:Hid (res=(decide (yh r.key=id)&&l.any (z7 n v l id r.key))):=qI (by rw [HS.o,Jg.o,Gq.o,if_pos he])
   have Gz:=qI Gm.o.1
   have CI:Hid (∀ w2,Calls Tryz.prog 18 #[.agg (ye r.key)] w2 fun e w'=>e = .returned (.string (yh r.key))∧zb [] w2 w'):=qI (fun w2=>jL r.key Gm.o.2 Gm.o.1 w2)
   have CH:Hid (∀ w2,zb [] W1 w2→∀ (j:Nat) (hj:j<l.length),Calls Tryz.prog 95 #[.agg #[.int .i64 kd,.int .i64 nm,.string st,.slice p1 i1 d1,.slice p2 i2 d2,.slice a m c],.int .i64 j,.agg (ye r.key)] w2 fun e w'=>e = .returned (.bool (qg n v l l[j] r.key))∧zb [] w2 w'):=qI (fun w2 hk j hj=>by
    have h1:=refHolds_any (HE.o.kept0 hk) r.key Gm.o.2 Gm.o.1 j hj
    rw [Jf.o] at h1
    exact h1)
   have Jn:Hid (∀ j (hj:j<l.length),∃ g o,a=some ⟨g,o,none⟩∧W1.cell? ⟨g,o+j*2,none⟩=some (.string l[j].id)):=qI (fun j hj=>by
    obtain⟨g,o,h1,-,-,h2⟩:=HE.o.rows.cells Ws
    exact⟨g,o,h1,h2 j hj 0 _ rfl⟩)
   have HP:Hid (∀ j (hj:j<l.length),z7 n v l id r.key l[j]=(decide (l[j].id=id)&&qg n v l l[j] r.key)):=qI (fun j hj=>rfl)
   have Jh:Hid (∀ k (hk:k<l.length),(l.take k).any (z7 n v l id r.key)=false→(l.take (k+1)).any (z7 n v l id r.key)=z7 n v l id r.key l[k]):=qI (fun k hk h=>any_take _ l k hk h)
   have Ji:Hid (∀ k,(l.take k).any (z7 n v l id r.key)=true→l.any (z7 n v l id r.key)=true):=qI (fun k h=>by
    rw [List.any_eq_true] at h ⊢
    obtain⟨x,h1,h2⟩:=h
    exact⟨x,List.mem_of_mem_take h1,h2⟩)
   clear he Gm Gq HS HE Je
   generalize r.key=key at Gf Gi Gz CI CH HP Jh Ji
   have HKCr:Hid (wr.rangeAt g (o+i*35+1) (kz key)):=qI (fun j u hu=>Gc.o.cell (Gf.o j u hu) Wz)
   generalize hkid:yh key=kid at Gi CI
   clear hkid
   by_cases hq:kid=id
   rotate_left
   ·obtain⟨g1,g2⟩:=ke hq
    have HR:Hid (res=false):=qI (by rw [Gi.o,decide_eq_false hq];rfl)
    clear hq CH Jn HP Jh Ji
    go_wp2_with first
     | (refine jI Wk (.tmp 25) Wk (g:=g) (of:=o+i*35+1) HKCr.o Gz.o Wk ?_)
     | (go_at_call 18;refine (CI.o _).mh ?_;rintro e w5 rfl Gd)
    go_ret
    exact⟨by rw [HR.o];rfl,Gb.o.then (Gc.o.then Gd.o)⟩
   obtain⟨g1,g2⟩:=ky hq
   rw [decide_eq_true hq] at Gi
   have Gi:Hid (res=l.any (z7 n v l id key)):=qI Gi.o
   clear hq
   go_upto_region 7 with first
    | (refine jI Wk (.tmp 25) Wk (g:=g) (of:=o+i*35+1) HKCr.o Gz.o Wk ?_)
    | (go_at_call 18;refine (CI.o _).mono ?_;rintro e w5 ⟨rfl,hk5⟩;have Gd:=qI hk5;have Jj:Hid (zb [] W1 w5):=qI (Gc.o.then hk5);clear hk5)
   clear g1 g2 f1 f2 hid0 CI
   go_wp2_with fail
   go_loopw [8] (fun idx wq=>∃ k:Nat,idx = .int .i64 k∧k≤m∧(l.take k).any (z7 n v l id key)=false∧zb [] W1 wq) (fun idx _=>m-(intOf idx).toNat)
   case atStart=>exact⟨0,rfl,Nat.zero_le _,rfl,Jj.o⟩
   case round=>
    obtain⟨k,rfl,hk,hno,hkq⟩:=hrel
    have Jo:=qI hno
    have Gn:=qI hkq
    have Gp:=hkq.heap Jl.o Wz
    clear hno hkq
    obtain⟨z0,z1,z2,z3,z4,z5⟩:=xT Gp
    clear Gp
    rcases Nat.lt_or_ge k m with hlt | hlt
    ·have hltI:(k:Int)<m:=by omega
     have hkl:k<l.length:=by rw [Jf.o];exact hlt
     obtain⟨gr,or,rfl,r00⟩:=Jn.o k hkl
     have r0:=Gn.o.cell r00 Wz
     clear r00
     have Gg:=qI (HP.o k hkl)
     have Gr:=qI (Jh.o k hkl Jo.o)
     have CHK:Hid (∀ w2,zb [] wr w2→_):=qI (fun w2 (hk:zb [] wr w2)=>CH.o w2 (Gn.o.then hk) k hkl)
     have Ju:Hid (wr.rangeAt g (o+i*35+1) (kz key)):=qI (fun j u hu=>Gn.o.cell (Gf.o j u hu) Wz)
     generalize hlk:l[k]=row at r0 Gg Gr CHK
     clear hlk
     have Gj:=qI hlt
     clear hlt hk
     clear hkl
     by_cases hid:row.id=id
     ·obtain⟨f1,f2⟩:=ky hid
      rw [decide_eq_true hid] at Gg
      have Gg:Hid (z7 n v l id key row=qg n v l row key):=qI Gg.o
      clear hid
      generalize hb:qg n v l row key=b at CHK Gg
      rw [Gg.o] at Gr
      have CHW:=CHK
      clear Gg hb CHK
      go_upto_region 10 with fail
      refine zK (n:=55) 17 [fI (.pointer (some ⟨w.heap.size,5,none⟩)),
       fI (.slice (some ⟨gr,or,none⟩) m c),
       fI (.int .i64 k),
       fI (.pointer (some ⟨gr,or+k*2,none⟩)),
       fI (.pointer (some ⟨gr,or+k*2,none⟩)),
       fI (.string row.id),
       fI (.string id),
       fT,
       fT,
       fI (.agg #[.int .i64 kd,.int .i64 nm,.string st,.slice p1 i1 d1,.slice p2 i2 d2,.slice (some ⟨gr,or,none⟩) m c]),
       fI (.int .i64 k),
       fI (.slice (some ⟨g,o,none⟩) kn c2),
       fI (.int .i64 i),
       fI (.pointer (some ⟨g,o+i*35,none⟩)),
       fI (.pointer (some ⟨g,o+i*35+1,none⟩)),
       fI (.agg (ye key)),
       fI (.bool b)] Wr rfl Wr (fun x=>yH) ?_ ?_
      ·refine⟨?_,?_,?_,?_,?_,?_,?_,?_,?_,?_,?_,?_,?_,?_,?_,?_,?_,trivial⟩ <;> intro x w2 hkw b hd
       ·exact ze
       ·have d0:x 0=_:=hd 0 Wr
        have y5:=hkw.cell z5 Wz
        exact ze
       ·exact ze
       ·have d1:x 1=_:=hd 1 Wr
        have d2:x 2=_:=hd 2 Wr
        have h1:=hltI
        exact ze
       ·have d3:x 3=_:=hd 3 Wr
        exact ze
       ·have d4:x 4=_:=hd 4 Wr
        have y0:=hkw.cell r0 Wz
        exact ze
       ·exact ze
       ·have d5:x 5=_:=hd 5 Wr
        have d6:x 6=_:=hd 6 Wr
        exact ze
       ·have d7:x 7=_:=hd 7 Wr
        exact ze
       ·have d8:x 8=_:=hd 8 Wr
        have y0:=hkw.cell z0 Wz
        have y1:=hkw.cell z1 Wz
        have y2:=hkw.cell z2 Wz
        have y3:=hkw.cell z3 Wz
        have y4:=hkw.cell z4 Wz
        have y5:=hkw.cell z5 Wz
        exact ze
       ·have d8:x 8=_:=hd 8 Wr
        exact ze
       ·have d8:x 8=_:=hd 8 Wr
        exact ze
       ·have d8:x 8=_:=hd 8 Wr
        exact ze
       ·have d8:x 8=_:=hd 8 Wr
        have d11:x 11=_:=hd 11 Wr
        have d12:x 12=_:=hd 12 Wr
        have h1:=hiI
        exact ze
       ·have d8:x 8=_:=hd 8 Wr
        have d13:x 13=_:=hd 13 Wr
        exact ze
       ·have d8:x 8=_:=hd 8 Wr
        have d14:x 14=_:=hd 14 Wr
        refine wpList_loadKg (by simp only [Nat.reduceAdd,Nat.zero_add];revert d8;generalize x 8=vv;rintro rfl;rfl) _ rfl (g:=g) (of:=o+i*35+1) (fun j v hv=>hkw.cell (Ju.o j v hv) Wz) Gz.o d14 ?_
        exact ze
       ·have d8:x 8=_:=hd 8 Wr
        have d9:x 9=_:=hd 9 Wr
        have d10:x 10=_:=hd 10 Wr
        have d15:x 15=_:=hd 15 Wr
        have d9:x 9=_:=hd 9 Wr
        have d10:x 10=_:=hd 10 Wr
        have d15:x 15=_:=hd 15 Wr
        have d8:x 8=_:=hd 8 Wr
        have CX:=CHW.o w2 hkw
        go_wp2_with (go_at_call 95;refine CX.mh ?_;rintro e w5 rfl Gd)
        exact⟨rfl,Gd.o⟩
      ·intro x w7 hkw b7 hd hwin
       have d8:x 8=_:=hd 8 Wo
       have d16:x 16=_:=hd 16 Wo
       have Gh:=qI hkw
       clear hd hwin hkw
       change wpList _ _ _ [_] _ _
       cases b with
       | true=>
        go_wp2_with fail
        go_ret
        exact⟨by rw [Gi.o,Ji.o (k+1) Gr.o];rfl,Gb.o.then (Gn.o.then Gh.o)⟩
       | false=>
        go_wp2_with fail
        case roundEnd=>exact⟨⟨k+1,by go_num,by have:=Gj.o;omega,Gr.o,Gn.o.then Gh.o⟩,by have:=Gj.o;simp [intOf];omega⟩
     ·obtain⟨f1,f2⟩:=ke hid
      rw [decide_eq_false hid] at Gg
      rw [Gg.o] at Gr
      clear hid CHK
      go_upto_region 10 with fail
      refine zK (n:=55) 17 [fI (.pointer (some ⟨w.heap.size,5,none⟩)),
       fI (.slice (some ⟨gr,or,none⟩) m c),
       fI (.int .i64 k),
       fI (.pointer (some ⟨gr,or+k*2,none⟩)),
       fI (.pointer (some ⟨gr,or+k*2,none⟩)),
       fI (.string row.id),
       fI (.string id),
       fF,
       fF,
       fU,
       fU,
       fU,
       fU,
       fU,
       fU,
       fU,
       fU] Wr rfl Wr (fun x=>yH) ?_ ?_
      ·refine⟨?_,?_,?_,?_,?_,?_,?_,?_,?_,?_,?_,?_,?_,?_,?_,?_,?_,trivial⟩ <;> intro x w2 hkw b hd
       ·exact ze
       ·have d0:x 0=_:=hd 0 Wr
        have y5:=hkw.cell z5 Wz
        exact ze
       ·exact ze
       ·have d1:x 1=_:=hd 1 Wr
        have d2:x 2=_:=hd 2 Wr
        have h1:=hltI
        exact ze
       ·have d3:x 3=_:=hd 3 Wr
        exact ze
       ·have d4:x 4=_:=hd 4 Wr
        have y0:=hkw.cell r0 Wz
        exact ze
       ·exact ze
       ·have d5:x 5=_:=hd 5 Wr
        have d6:x 6=_:=hd 6 Wr
        exact ze
       ·have d7:x 7=_:=hd 7 Wr
        exact ze
       ·have d8:x 8=_:=hd 8 Wr
        exact ze
       ·have d8:x 8=_:=hd 8 Wr
        exact ze
       ·have d8:x 8=_:=hd 8 Wr
        exact ze
       ·have d8:x 8=_:=hd 8 Wr
        exact ze
       ·have d8:x 8=_:=hd 8 Wr
        have d11:x 11=_:=hd 11 Wr
        have d12:x 12=_:=hd 12 Wr
        exact ze
       ·have d8:x 8=_:=hd 8 Wr
        have d13:x 13=_:=hd 13 Wr
        exact ze
       ·have d8:x 8=_:=hd 8 Wr
        have d14:x 14=_:=hd 14 Wr
        exact ze
       ·have d8:x 8=_:=hd 8 Wr
        have d9:x 9=_:=hd 9 Wr
        have d10:x 10=_:=hd 10 Wr
        have d15:x 15=_:=hd 15 Wr
        exact ze
      ·intro x w7 hkw b7 hd hwin
       have d8:x 8=_:=hd 8 Wo
       have d16:x 16=_:=hd 16 Wo
       have Gh:=qI hkw
       clear hd hwin hkw
       change wpList _ _ _ [_] _ _
       go_wp2_with fail
       case roundEnd=>exact⟨⟨k+1,by go_num,by have:=Gj.o;omega,Gr.o,Gn.o.then Gh.o⟩,by have:=Gj.o;simp [intOf];omega⟩
    ·obtain rfl:k=m:=by omega
     have hkk:¬ ((k:Int)<k):=Ws
     go_wp2_with fail
     go_ret
     refine⟨?_,Gb.o.then Gn.o⟩
     have h1:=Jo.o
     rw [List.take_of_length_le (by rw [Jf.o];exact Nat.le_refl _)] at h1
     rw [Gi.o,h1];rfl
  ·obtain rfl:i=kn:=by omega
   have HR:Hid (res=false):=qI (by rw [HS.o,Jg.o,List.drop_of_length_le (by rw [Jm.o];exact Nat.le_refl _)];rfl)
   have hkk:¬ ((i:Int)<i):=Ws
   go_wp2_with fail
   go_ret
   exact⟨by rw [HR.o];rfl,Gb.o.then Gc.o⟩
attribute [local go_sem] Oper.semAt_some
theorem signs_off {n:Nat}{v:V n}{l:List yr}{keys:List xW}(h:yj n v l=false) (id:ByteArray):xo n v l keys id=false:=by
 rw [signs_doc]
 cases qG keys id with
 | none=>rfl
 | some r=>
  have h1:l.any (z7 n v l id r.key)=false:=by
   rw [List.any_eq_false]
   intro x _ h9
   unfold z7 qg at h9
   rw [h] at h9
   simp at h9
  show (decide (yh r.key=id)&&l.any (z7 n v l id r.key))=false
  rw [h1];simp
theorem valid_doc {n:Nat}{v:V n}{l:List yr}{r:qz}{keys:List xW}(h:yu r=true):zU n v l r keys=r.keys.filter (xo n v l keys):=by
 unfold zU
 rcases Bool.eq_false_or_eq_true (yj n v l) with hm | hm
 ·rw [if_pos ⟨h,hm⟩]
 ·rw [if_neg (fun h9=>by rw [hm] at h9;cases h9.2)]
  symm
  rw [List.filter_eq_nil_iff]
  intro x _ h9
  rw [signs_off hm] at h9
  cases h9
theorem valid_not {n:Nat}{v:V n}{l:List yr}{r:qz}{keys:List xW}(h:yu r=false):zU n v l r keys=[]:=by
 unfold zU
 rw [if_neg (fun h9=>by rw [h] at h9;cases h9.1)]
theorem K1 {n:Nat}{S:Nat→Prop}{w:World}{cs:List Value}{v:V n}{a:Option Addr}{c:Nat}{l:List yr}(h:Env n S w cs v a c l) {r:qz}{ra:Option Addr}{rc:Nat}(hr:kP w ra rc r) {a2:Option Addr}{c2:Nat}{keys:List xW}(hk:xP w (.slice a2 keys.length c2) keys) :
  Calls Tryz.prog 23 #[.agg (vG cs a l.length c).toArray,.agg #[.slice ra r.keys.length rc,.int .i64 r.thr],.slice a2 keys.length c2] w fun e w'=>(∃ q d,e = .returned (.slice q (zU n v l r keys).length d))∧zb [] w w':=by
 obtain⟨kd,nm,st,p1,i1,d1,p2,i2,d2,rfl⟩:=h.rep.conv
 obtain⟨W1,Ga⟩:∃ W1,Hid (W1=(w.alloc (.cells #[.int .i64 kd,.int .i64 nm,.string st,.slice p1 i1 d1,.slice p2 i2 d2,.slice a l.length c] 28)).alloc (.cells #[.slice ra r.keys.length rc,.int .i64 r.thr] 31)):=⟨_,qI rfl⟩
 have Gb:Hid (zb [] w W1):=qI (kA2 Ga.o)
 have Ge:Hid (W1.heap[w.heap.size]? = some (.cells #[.int .i64 kd,.int .i64 nm,.string st,.slice p1 i1 d1,.slice p2 i2 d2,.slice a l.length c] 28 (0,0))):=qI (by rw [Ga.o];exact ((zb.refl [] _).alloc _).heap (zd rfl) Wz)
 have Gk:Hid (W1.heap[w.heap.size+1]? = some (.cells #[.slice ra r.keys.length rc,.int .i64 r.thr] 31 (0,0))):=qI (by rw [Ga.o];exact zd Wz)
 have CM:Hid (Cq W1 22 #[.agg #[.slice ra r.keys.length rc,.int .i64 r.thr]] (.bool (yu r))):=qI (fun w2 hk2=>J5 ((hr.kept0 Gb.o).kept0 hk2).txt hr.sizes (by have:=hr.few;omega))
 have CS:Hid (∀ w2,zb [] W1 w2→∀ id,Calls Tryz.prog 53 #[.agg #[.int .i64 kd,.int .i64 nm,.string st,.slice p1 i1 d1,.slice p2 i2 d2,.slice a l.length c],.string id,.slice a2 keys.length c2] w2 fun e w'=>e = .returned (.bool (xo n v l keys id))∧zb [] w2 w'):=qI (fun w2 hk2 id=>by
  have h1:=refSigns_any ((h.kept0 Gb.o).kept0 hk2) id ((hk.kept0 Gb.o).kept0 hk2)
  exact h1)
 have Jv:=qI (hr.txt.kept0 Gb.o)
 obtain⟨P,HP⟩:∃ P,Hid (P=xo n v l keys):=⟨_,qI rfl⟩
 obtain⟨FL,Gt⟩:∃ FL:Nat→List ByteArray,Hid (∀ i,FL i=(r.keys.take i).filter P):=⟨_,qI (fun _=>rfl)⟩
 have Ja:Hid (FL 0=[]):=qI (by rw [Gt.o];rfl)
 have Gq:Hid (∀ i (hi:i<r.keys.length),FL (i+1)=if P r.keys[i]=true then FL i++[r.keys[i]] else FL i):=qI (fun i hi=>by
  rw [Gt.o,Gt.o,List.take_succ_eq_append_getElem hi,List.filter_append,List.filter_cons]
  split <;> simp)
 have Jw:Hid (∀ i,(FL i).length≤1000000):=qI (fun i=>by rw [Gt.o];have h1:=List.length_filter_le P (r.keys.take i);have h2:=hr.few;rw [List.length_take] at h1;omega)
 have Jb:Hid (yu r=true→zU n v l r keys=FL r.keys.length):=qI (fun hm=>by rw [valid_doc hm,Gt.o,List.take_length,HP.o])
 have Jc:Hid (yu r=false→zU n v l r keys=[]):=qI valid_not
 have hrI:(r.keys.length:Int)≤1000000:=by have:=hr.few;omega
 rw [← HP.o] at CS
 clear h hr hk
 generalize zU n v l r keys=vl at Jb Jc ⊢
 generalize yu r=M at CM Jb Jc
 generalize hrn:r.keys.length=rn at Ga Gk CM Jb hrI ⊢
 have Jx:=qI hrn
 clear hrn
 generalize keys.length=kn at CS ⊢
 generalize l.length=m at Ga Ge CS ⊢
 generalize r.thr=th at Ga Gk CM ⊢
 show Calls _ _ #[.agg #[.int .i64 kd,.int .i64 nm,.string st,.slice p1 i1 d1,.slice p2 i2 d2,.slice a m c],.agg #[.slice ra rn rc,.int .i64 th],.slice a2 kn c2] _ _
 go_enter func23,ntmps23
 go_upto_region 1 with fail
 refine yq Ga.o ?_
 go_wp2_with fail
 go_loopw [7,8] (fun sl iv wr=>∃ (i L:Nat) (q:Option Addr) (z:Nat),iv = .int .i64 i∧sl = .slice q L z∧i≤rn∧Hid (i=0∨M=true)∧Hid (L=(FL i).length)∧Hid (wr.ownsRow W1.heap.size 9 1 (.slice q L z) L ((FL i).map Value.string))∧Hid (zb [] W1 wr)) (fun _ iv _=>rn-(intOf iv).toNat)
 case atStart=>exact⟨0,0,none,0,rfl,rfl,Nat.zero_le _,qI (.inl rfl),qI (by rw [Ja.o];rfl),qI (by rw [Ja.o];exact World.ownsRow_nil _ _ _ _),qI Wd⟩
 case round=>
  obtain⟨i,L,q,z,rfl,rfl,hi,Jp,HL,Jy,Gc⟩:=hrel
  have Jd:=Gc.o.heap Ge.o Wz
  have Gu:=Gc.o.heap Gk.o Wz
  have r0:=za (o:=0) Gu rfl
  have r1:=za (o:=1) Gu rfl
  rcases Nat.lt_or_ge i rn with hlt | hge
  ·have hiI:(i:Int)<rn:=by omega
   cases M with
   | false=>
    obtain rfl:i=0:=Jp.o.resolve_right Wo
    clear Jd Gu
    go_wp2_with (go_at_call 22;refine (CM.o _ Gc.o).mh ?_;rintro e w3 rfl Jk)
    go_ret
    refine⟨⟨q,z,?_⟩,Gb.o.then (Gc.o.then Jk.o)⟩
    rw [Jc.o (by first | rfl | trivial),HL.o,Ja.o];rfl
   | true=>
    have Gl:=qI hlt
    have hil:i<r.keys.length:=by rw [Jx.o];exact hlt
    obtain⟨gk,ok,rfl,-,hrow⟩:=xy (size:=1) (show Slc W1 1 (.slice ra r.keys.length rc) r.keys.length (r.keys.map Value.string) from Jv.o) Ws
    have k0:=hrow.at (j:=i) (by rw [List.length_map];exact hil)
    rw [List.getElem_map] at k0
    have Gs:=qI (Gq.o i hil)
    generalize r.keys[i]=s at k0 Gs
    have CSS:=qI (fun w2 hk2=>CS.o w2 hk2 s)
    generalize P s=b at CSS Gs
    clear hil hrow hlt hi
    have k1:=Gc.o.cell k0 Wz
    go_upto_region 5 with (go_at_call 22;refine (CM.o _ Gc.o).mono ?_;rintro e w3 ⟨rfl,hk3⟩;have hbe:=hk3.heap Jd Wz;have y0:=za (o:=0) hbe rfl;have y1:=za (o:=1) hbe rfl;have y2:=za (o:=2) hbe rfl;have y3:=za (o:=3) hbe rfl;have y4:=za (o:=4) hbe rfl;have y5:=za (o:=5) hbe rfl;have g0:=hk3.cell r0 Wz;have ks:=hk3.cell k1 Wz;have Jk:=qI (Gc.o.then hk3);have Jz:=qI (zo Jy.o hk3 Wz);clear hk3 hbe r0 r1 k1)
    clear Jd Gu
    refine zK (n:=37) 7 [fI (.agg #[.int .i64 kd,.int .i64 nm,.string st,.slice p1 i1 d1,.slice p2 i2 d2,.slice a m c]),
     fI (.pointer (some ⟨w.heap.size+1,0,none⟩)),
     fI (.slice (some ⟨gk,ok,none⟩) rn rc),
     fI (.int .i64 i),
     fI (.pointer (some ⟨gk,ok+i,none⟩)),
     fI (.string s),
     fI (.slice a2 kn c2)] Wr rfl Wr (fun x=>yH) ?_ ?_
    ·refine⟨?_,?_,?_,?_,?_,?_,?_,trivial⟩ <;> intro x w2 hkw b hd
     ·have u0:=hkw.cell y0 Wz
      have u1:=hkw.cell y1 Wz
      have u2:=hkw.cell y2 Wz
      have u3:=hkw.cell y3 Wz
      have u4:=hkw.cell y4 Wz
      have u5:=hkw.cell y5 Wz
      exact ze
     ·exact ze
     ·have d1:x 1=_:=hd 1 Wr
      have u0:=hkw.cell g0 Wz
      exact ze
     ·exact ze
     ·have d2:x 2=_:=hd 2 Wr
      have d3:x 3=_:=hd 3 Wr
      have h1:=hiI
      exact ze
     ·have d4:x 4=_:=hd 4 Wr
      have u0:=hkw.cell ks Wz
      exact ze
     ·exact ze
    ·intro x w7 hkw b7 hd hwin
     have d0:x 0=_:=hd 0 Wo
     have d5:x 5=_:=hd 5 Wo
     have d6:x 6=_:=hd 6 Wo
     have Gh:=qI (Jk.o.then hkw)
     have Jq:=qI (zo Jz.o hkw Wz)
     have g7:=hkw.cell g0 Wz
     have k7:=hkw.cell ks Wz
     clear hd hwin hkw y0 y1 y2 y3 y4 y5 g0 ks
     change wpList _ _ _ [_] _ _
     have Jr:=qI (Jw.o i)
     cases b with
     | false=>
      have Gv:Hid (FL (i+1)=FL i):=qI (by rw [Gs.o];rfl)
      clear Gs
      go_wp2_with (go_at_call 53;refine (CSS.o _ Gh.o).mh ?_;rintro e w8 rfl Gw)
      case roundEnd=>exact⟨⟨i+1,L,q,z,by go_num,rfl,Gl.o,qI (.inr (by first | rfl | trivial)),qI (by rw [Gv.o];exact HL.o),qI (by rw [Gv.o];exact zo Jq.o Gw.o Wz),qI (Gh.o.then Gw.o)⟩,by have:=Gl.o;simp [intOf];omega⟩
     | true=>
      have Gv:Hid (FL (i+1)=FL i++[s]):=qI (by rw [Gs.o];rfl)
      clear Gs
      go_wp2_with first
       | (go_at_call 53;refine (CSS.o _ Gh.o).mono ?_;rintro e w8 ⟨rfl,hk8⟩;have g8:=hk8.cell g7 Wz;have k8:=hk8.cell k7 Wz;have Js:=qI (zo Jq.o hk8 Wz);have Gw:=qI (Gh.o.then hk8);clear hk8 g7 k7)
       | (at_builtin;refine zk tyTexts (base:=W1.heap.size) (v:=.slice q L z) (n:=L) (m:=1) (xs:=(FL i).map Value.string) (news:=[.string s]) (zo Js.o ((zb.refl [] _).alloc _) Wz) (zT _ [.string s] 1 1 _ _ rfl rfl Wo) (by intro u hu;simp only [List.mem_singleton] at hu;subst hu;rfl) (by have:=HL.o;have:=Jr.o;simp only [maxLen];omega) (by have:=HL.o;have:=Jr.o;omega) ((Gw.o.alloc _).size) rfl _ _ rfl rfl rfl ?_;intro v9 w9 hown hk9 _ _;obtain⟨a9,c9,rfl,-,-⟩:=(Slc.of_row hown).form;have Ma:=qI hown;have Gx:Hid (zb [] W1 w9):=qI ((Gw.o.alloc _).trans hk9 (fun x hx=>.inr (Js.o.lt x (Option.mem_toList.1 hx)).1));clear hown hk9)
      case roundEnd=>exact⟨⟨i+1,L+1,a9,c9,by go_num,rfl,Gl.o,qI (.inr (by first | rfl | trivial)),qI (by rw [Gv.o,HL.o,List.length_append];rfl),qI (by rw [Gv.o,List.map_append];exact Ma.o),Gx⟩,by have:=Gl.o;simp [intOf];omega⟩
  ·obtain rfl:i=rn:=by omega
   have hii:¬ ((i:Int)<i):=Ws
   clear Jd Gu
   go_wp2_with fail
   go_ret
   refine⟨⟨q,z,?_⟩,Gb.o.then Gc.o⟩
   rcases Bool.eq_false_or_eq_true M with hM | hM
   ·rw [Jb.o hM,HL.o];rfl
   ·rw [Jc.o hM,HL.o]
    rcases Jp.o with h0 | h0
    ·rw [h0,Ja.o];rfl
    ·rw [hM] at h0;cases h0
def lenFact (N:Nat):kf (zb []):=⟨fun v _ _=>∃ q d,v = .slice q N d,fun _ _ _ _ h _=>h⟩
theorem YC {n:Nat}{S:Nat→Prop}{w:World}{cs:List Value}{v:V n}{a:Option Addr}{c:Nat}{l:List yr}(h:Env n S w cs v a c l) {r:qz}{ra:Option Addr}{rc:Nat}(hr:kP w ra rc r) {a2:Option Addr}{c2:Nat}{keys:List xW}(hk:xP w (.slice a2 keys.length c2) keys) :
  CL w 9 #[.agg (vG cs a l.length c).toArray,.agg #[.slice ra r.keys.length rc,.int .i64 r.thr],.slice a2 keys.length c2] (.int .i64 (yN r (zU n v l r keys).length)):=by
 obtain⟨kd,nm,st,p1,i1,d1,p2,i2,d2,rfl⟩:=h.rep.conv
 obtain⟨W1,Ga⟩:∃ W1,Hid (W1=(w.alloc (.cells #[.int .i64 kd,.int .i64 nm,.string st,.slice p1 i1 d1,.slice p2 i2 d2,.slice a l.length c] 28)).alloc (.cells #[.slice ra r.keys.length rc,.int .i64 r.thr] 31)):=⟨_,qI rfl⟩
 have Gb:Hid (zb [] w W1):=qI (kA2 Ga.o)
 have Ge:Hid (W1.heap[w.heap.size]? = some (.cells #[.int .i64 kd,.int .i64 nm,.string st,.slice p1 i1 d1,.slice p2 i2 d2,.slice a l.length c] 28 (0,0))):=qI (by rw [Ga.o];exact ((zb.refl [] _).alloc _).heap (zd rfl) Wz)
 have Gk:Hid (W1.heap[w.heap.size+1]? = some (.cells #[.slice ra r.keys.length rc,.int .i64 r.thr] 31 (0,0))):=qI (by rw [Ga.o];exact zd Wz)
 have CM:Hid (Cq W1 22 #[.agg #[.slice ra r.keys.length rc,.int .i64 r.thr]] (.bool (yu r))):=qI (fun w2 hk2=>J5 ((hr.kept0 Gb.o).kept0 hk2).txt hr.sizes (by have:=hr.few;omega))
 have CV:Hid (∀ w2,zb [] W1 w2→Calls Tryz.prog 23 #[.agg #[.int .i64 kd,.int .i64 nm,.string st,.slice p1 i1 d1,.slice p2 i2 d2,.slice a l.length c],.agg #[.slice ra r.keys.length rc,.int .i64 r.thr],.slice a2 keys.length c2] w2 fun e w'=>(∃ q d,e = .returned (.slice q (zU n v l r keys).length d))∧zb [] w2 w'):=qI (fun w2 hk2=>by
  have h1:=K1 ((h.kept0 Gb.o).kept0 hk2) ((hr.kept0 Gb.o).kept0 hk2) ((hk.kept0 Gb.o).kept0 hk2)
  exact h1)
 have HZ:Hid (∀ k:Nat,yN r k=if (if yu r=true then max (r.thr-k) 0 else -1)=0 then 0 else 180):=qI (fun _=>rfl)
 generalize (zU n v l r keys).length=cnt at CV ⊢
 have HZ:=qI (HZ.o cnt)
 generalize yN r cnt=res at HZ ⊢
 clear h hr hk
 generalize yu r=M at CM HZ
 generalize r.keys.length=rn at Ga Gk CM CV ⊢
 generalize keys.length=kn at CV ⊢
 generalize l.length=m at Ga Ge CV ⊢
 generalize r.thr=th at Ga Gk CM CV HZ ⊢
 obtain⟨a0,a1,a2',a3,a4,a5⟩:=xT Ge.o
 have b0:=za (o:=0) Gk.o rfl
 have b1:=za (o:=1) Gk.o rfl
 show Calls _ _ #[.agg #[.int .i64 kd,.int .i64 nm,.string st,.slice p1 i1 d1,.slice p2 i2 d2,.slice a m c],.agg #[.slice ra rn rc,.int .i64 th],.slice a2 kn c2] _ _
 cases M with
 | false=>
  go_enter func9,ntmps9
  go_upto_region 1 with fail
  refine yq Ga.o ?_
  go_wp2
  refine zK (n:=20) 12 [fI (.agg #[.slice ra rn rc,.int .i64 th]),
   fF,
   fT,
   fT,
   fU,
   fU,
   fU,
   fU,
   fU,
   fU,
   fU,
   fU] Wr rfl Wr (fun x=>yH) ?_ ?_
  ·refine⟨?_,?_,?_,?_,?_,?_,?_,?_,?_,?_,?_,?_,trivial⟩ <;> intro x w2 hkw b hd
   ·have u0:=hkw.cell b0 Wz
    have u1:=hkw.cell b1 Wz
    exact ze
   ·have d0:x 0=_:=hd 0 Wr
    have CX:=CM.o w2 hkw
    go_wp2_with (go_at_call 22;refine CX.mh ?_;rintro e w5 rfl Gd)
    exact⟨rfl,Gd.o⟩
   ·have d1:x 1=_:=hd 1 Wr
    exact ze
   ·have d2:x 2=_:=hd 2 Wr
    exact ze
   ·have d3:x 3=_:=hd 3 Wr
    exact ze
   ·have d3:x 3=_:=hd 3 Wr
    exact ze
   ·have d3:x 3=_:=hd 3 Wr
    exact ze
   ·have d3:x 3=_:=hd 3 Wr
    have d4:x 4=_:=hd 4 Wr
    have d5:x 5=_:=hd 5 Wr
    have d6:x 6=_:=hd 6 Wr
    exact ze
   ·have d3:x 3=_:=hd 3 Wr
    have d7:x 7=_:=hd 7 Wr
    exact ze
   ·have d3:x 3=_:=hd 3 Wr
    exact ze
   ·have d3:x 3=_:=hd 3 Wr
    have d9:x 9=_:=hd 9 Wr
    exact ze
   ·have d3:x 3=_:=hd 3 Wr
    have d8:x 8=_:=hd 8 Wr
    have d10:x 10=_:=hd 10 Wr
    exact ze
  ·intro x w17 hkw b17 hd hwin
   have d3:x 3=_:=hd 3 Wo
   have Gy:=qI hkw
   clear hd hwin hkw
   change wpList _ _ _ [_] _ _
   go_wp2_with fail
   go_ret
   exact⟨by rw [HZ.o];rfl,Gb.o.then Gy.o⟩
 | true=>
  by_cases hlt:(cnt:Int)<th
  ·have Gj:Hid (res=180):=qI (by rw [HZ.o,if_pos rfl,if_neg Ws])
   go_enter func9,ntmps9
   go_upto_region 1 with fail
   refine yq Ga.o ?_
   go_wp2
   refine zK (n:=20) 12 [fI (.agg #[.slice ra rn rc,.int .i64 th]),
    fT,
    fF,
    fF,
    fI (.agg #[.int .i64 kd,.int .i64 nm,.string st,.slice p1 i1 d1,.slice p2 i2 d2,.slice a m c]),
    fI (.agg #[.slice ra rn rc,.int .i64 th]),
    fI (.slice a2 kn c2),
    lenFact cnt,
    fI (.int .i64 cnt),
    fI (.pointer (some ⟨w.heap.size+1,1,none⟩)),
    fI (.int .i64 th),
    fT] Wr rfl Wr (fun x=>yH) ?_ ?_
   ·refine⟨?_,?_,?_,?_,?_,?_,?_,?_,?_,?_,?_,?_,trivial⟩ <;> intro x w2 hkw b hd
    ·have u0:=hkw.cell b0 Wz
     have u1:=hkw.cell b1 Wz
     exact ze
    ·have d0:x 0=_:=hd 0 Wr
     have CX:=CM.o w2 hkw
     go_wp2_with (go_at_call 22;refine CX.mh ?_;rintro e w5 rfl Gd)
     exact⟨rfl,Gd.o⟩
    ·have d1:x 1=_:=hd 1 Wr
     exact ze
    ·have d2:x 2=_:=hd 2 Wr
     exact ze
    ·have d3:x 3=_:=hd 3 Wr
     have u0:=hkw.cell a0 Wz
     have u1:=hkw.cell a1 Wz
     have u2:=hkw.cell a2' Wz
     have u3:=hkw.cell a3 Wz
     have u4:=hkw.cell a4 Wz
     have u5:=hkw.cell a5 Wz
     exact ze
    ·have d3:x 3=_:=hd 3 Wr
     have u0:=hkw.cell b0 Wz
     have u1:=hkw.cell b1 Wz
     exact ze
    ·have d3:x 3=_:=hd 3 Wr
     exact ze
    ·have d3:x 3=_:=hd 3 Wr
     have d4:x 4=_:=hd 4 Wr
     have d5:x 5=_:=hd 5 Wr
     have d6:x 6=_:=hd 6 Wr
     have d4:x 4=_:=hd 4 Wr
     have d5:x 5=_:=hd 5 Wr
     have d6:x 6=_:=hd 6 Wr
     have d3:x 3=_:=hd 3 Wr
     have CX:=CV.o w2 hkw
     go_wp2_with (go_at_call 23;refine CX.mono ?_;rintro e w9 ⟨⟨q9,d9,rfl⟩,hk9⟩;have Gx:=qI hk9;clear hk9)
     exact⟨⟨q9,d9,rfl⟩,Gx.o⟩
    ·have d3:x 3=_:=hd 3 Wr
     have d3:x 3=_:=hd 3 Wr
     obtain⟨q9,e9,d7⟩:=hd 7 Wr
     exact ze
    ·have d3:x 3=_:=hd 3 Wr
     exact ze
    ·have d3:x 3=_:=hd 3 Wr
     have d9:x 9=_:=hd 9 Wr
     have u1:=hkw.cell b1 Wz
     exact ze
    ·have d3:x 3=_:=hd 3 Wr
     have d8:x 8=_:=hd 8 Wr
     have d10:x 10=_:=hd 10 Wr
     have h1:=hlt
     exact ze
   ·intro x w17 hkw b17 hd hwin
    have d3:x 3=_:=hd 3 Wo
    have d11:x 11=_:=hd 11 Wo
    have Gy:=qI hkw
    clear hd hwin hkw
    change wpList _ _ _ [_] _ _
    go_wp2_with fail
    go_ret
    exact⟨by rw [Gj.o];rfl,Gb.o.then Gy.o⟩
  ·have Gj:Hid (res=0):=qI (by rw [HZ.o,if_pos rfl,if_pos Ws])
   have hlt:decide ((cnt:Int)<th)=false:=decide_eq_false hlt
   go_enter func9,ntmps9
   go_upto_region 1 with fail
   refine yq Ga.o ?_
   go_wp2
   refine zK (n:=20) 12 [fI (.agg #[.slice ra rn rc,.int .i64 th]),
    fT,
    fF,
    fF,
    fI (.agg #[.int .i64 kd,.int .i64 nm,.string st,.slice p1 i1 d1,.slice p2 i2 d2,.slice a m c]),
    fI (.agg #[.slice ra rn rc,.int .i64 th]),
    fI (.slice a2 kn c2),
    lenFact cnt,
    fI (.int .i64 cnt),
    fI (.pointer (some ⟨w.heap.size+1,1,none⟩)),
    fI (.int .i64 th),
    fF] Wr rfl Wr (fun x=>yH) ?_ ?_
   ·refine⟨?_,?_,?_,?_,?_,?_,?_,?_,?_,?_,?_,?_,trivial⟩ <;> intro x w2 hkw b hd
    ·have u0:=hkw.cell b0 Wz
     have u1:=hkw.cell b1 Wz
     exact ze
    ·have d0:x 0=_:=hd 0 Wr
     have CX:=CM.o w2 hkw
     go_wp2_with (go_at_call 22;refine CX.mh ?_;rintro e w5 rfl Gd)
     exact⟨rfl,Gd.o⟩
    ·have d1:x 1=_:=hd 1 Wr
     exact ze
    ·have d2:x 2=_:=hd 2 Wr
     exact ze
    ·have d3:x 3=_:=hd 3 Wr
     have u0:=hkw.cell a0 Wz
     have u1:=hkw.cell a1 Wz
     have u2:=hkw.cell a2' Wz
     have u3:=hkw.cell a3 Wz
     have u4:=hkw.cell a4 Wz
     have u5:=hkw.cell a5 Wz
     exact ze
    ·have d3:x 3=_:=hd 3 Wr
     have u0:=hkw.cell b0 Wz
     have u1:=hkw.cell b1 Wz
     exact ze
    ·have d3:x 3=_:=hd 3 Wr
     exact ze
    ·have d3:x 3=_:=hd 3 Wr
     have d4:x 4=_:=hd 4 Wr
     have d5:x 5=_:=hd 5 Wr
     have d6:x 6=_:=hd 6 Wr
     have d4:x 4=_:=hd 4 Wr
     have d5:x 5=_:=hd 5 Wr
     have d6:x 6=_:=hd 6 Wr
     have d3:x 3=_:=hd 3 Wr
     have CX:=CV.o w2 hkw
     go_wp2_with (go_at_call 23;refine CX.mono ?_;rintro e w9 ⟨⟨q9,d9,rfl⟩,hk9⟩;have Gx:=qI hk9;clear hk9)
     exact⟨⟨q9,d9,rfl⟩,Gx.o⟩
    ·have d3:x 3=_:=hd 3 Wr
     have d3:x 3=_:=hd 3 Wr
     obtain⟨q9,e9,d7⟩:=hd 7 Wr
     exact ze
    ·have d3:x 3=_:=hd 3 Wr
     exact ze
    ·have d3:x 3=_:=hd 3 Wr
     have d9:x 9=_:=hd 9 Wr
     have u1:=hkw.cell b1 Wz
     exact ze
    ·have d3:x 3=_:=hd 3 Wr
     have d8:x 8=_:=hd 8 Wr
     have d10:x 10=_:=hd 10 Wr
     have h1:=hlt
     exact ze
   ·intro x w17 hkw b17 hd hwin
    have d3:x 3=_:=hd 3 Wo
    have d11:x 11=_:=hd 11 Wo
    have Gy:=qI hkw
    clear hd hwin hkw
    change wpList _ _ _ [_] _ _
    go_wp2_with fail
    go_ret
    exact⟨by rw [Gj.o];rfl,Gb.o.then Gy.o⟩
end Go.Proofs.YtibnfbglanpoiaaGreatDoor

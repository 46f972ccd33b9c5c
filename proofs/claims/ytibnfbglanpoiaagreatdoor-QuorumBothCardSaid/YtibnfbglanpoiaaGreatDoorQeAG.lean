/- Parts of one proof, merged: XBB XBC XWs XGR XEn. -/
import Derived.Test.YtibnfbglanpoiaaGreatDoorQeAE
import Derived.Lib.SliceRun
import Derived.Test.YtibnfbglanpoiaaGreatDoorQeX
import Derived.Test.YtibnfbglanpoiaaGreatDoorQeAF
import Derived.ChangeKeysEq
set_option linter.all false
set_option maxHeartbeats 12800000
set_option maxRecDepth 10000
namespace Go.Proofs.YtibnfbglanpoiaaGreatDoor
open Go.Proofs.Tryz
open Go.RowKit
def Y2:ByteArray:=⟨#[]⟩
def z7 (n:Nat) (v:V n) (l:List yr) (id:ByteArray) (k:zY) (r:yr):Bool:=decide (r.id=id)&&qg n v l r k
def xo (n:Nat) (v:V n) (l:List yr) (keys:List xW) (id:ByteArray):Bool:=
 match qG keys id with
 | none=>false
 | some r=>!(decide (id=Y2))&&(decide (yh r.key=id)&&l.any (z7 n v l id r.key))
theorem JY (id:ByteArray):id.toList.isEmpty=true↔id=Y2:=by
 rw [ByteArray.toList_eq,List.isEmpty_iff]
 constructor
 ·intro h
  cases id with
  | mk d=>
   unfold Y2
   congr 1
   exact Array.toList_inj.1 (by simpa using h)
 ·rintro rfl
  rfl
theorem any_take {α:Type}(p:α→Bool) (l:List α) (k:Nat) (hk:k<l.length) (h:(l.take k).any p=false):(l.take (k+1)).any p=p l[k]:=by
 rw [List.take_succ_eq_append_getElem hk,List.any_append,h]
 simp
theorem signs_any {n:Nat}{S:Nat→Prop}{w:World}{cs:List Value}{v:V n}{a:Option Addr}{c:Nat}{l:List yr}(h:Env n S w cs v a c l) (ht:qC w) (hks:xN w) (id:ByteArray) {a2:Option Addr}{c2:Nat}{keys:List xW}(hk:xP w (.slice a2 keys.length c2) keys) :
  CL w 29 #[.agg (vG cs a l.length c).toArray,.string id,.slice a2 keys.length c2] (.bool (xo n v l keys id)):=by
 obtain⟨kd,nm,st,p1,i1,d1,p2,i2,d2,rfl⟩:=h.rep.conv
 obtain⟨W1,Gq⟩:∃ W1,Hid (W1=w.alloc (.cells #[.int .i64 kd,.int .i64 nm,.string st,.slice p1 i1 d1,.slice p2 i2 d2,.slice a l.length c] 28)):=⟨_,qI rfl⟩
 have Gd:Hid (zb [] w W1):=qI (kA1 Gq.o)
 have Gx:Hid (W1.heap[w.heap.size]? = some (.cells #[.int .i64 kd,.int .i64 nm,.string st,.slice p1 i1 d1,.slice p2 i2 d2,.slice a l.length c] 28 (0,0))):=qI (by rw [Gq.o];exact zd rfl)
 have HE:=qI (h.kept0 Gd.o)
 have HT:=qI (ht.kept0 Gd.o)
 have Jn:=qI (hks.kept0 Gd.o)
 have CF:=qI (find_any (hk.kept0 Gd.o) id)
 have HS:Hid (xo n v l keys id=match qG keys id with | none=>false | some r=>!(decide (id=Y2))&&(decide (yh r.key=id)&&l.any (z7 n v l id r.key))):=qI rfl
 have Jh:Hid (∀ r,qG keys id=some r→r.fine):=qI (fun r hr=>hk.fine r (List.mem_of_find?_eq_some hr))
 have hmI:(l.length:Int)≤1000000:=by have:=h.few;omega
 clear h ht hks hk
 generalize xo n v l keys id=res at HS ⊢
 generalize qG keys id=fo at CF HS Jh
 generalize keys.length=kn at CF ⊢
 show Calls _ _ #[.agg #[.int .i64 kd,.int .i64 nm,.string st,.slice p1 i1 d1,.slice p2 i2 d2,.slice a l.length c],.string id,.slice a2 kn c2] _ _
 cases fo with
 | none=>
  have HR:Hid (res=false):=qI HS.o
  have CF:Hid (Cz W1 61 #[.slice a2 kn c2,.string id] (.tuple #[.agg (ye yD),.bool false])):=CF
  clear HS Jh
  have Gy:Hid (yD.root.length=32):=qI Wk
  go_enter func29,ntmps29
  go_upto_region 1 with fail
  refine yq Gq.o ?_
  go_wp2_with first
   | (go_at_call 61;refine CF.o.mh ?_;rintro e w2 rfl Gb)
   | (refine xB Wk (.tmp 7) (.tmp 15) Wk (g:=w2.heap.size) (k:=yD) (k0:=yD) (zd rfl) Gy.o Gy.o Wk Wk ?_;intro w4 h4 hk4;have Gh:Hid (zb [] w2 w4):=qI (((zb.refl [] w2).alloc _).trans hk4 (by intro i hi;simp at hi;subst hi;exact .inr (Nat.le_refl _)));clear h4 hk4;simp only [Act.put])
  go_ret
  exact⟨by rw [HR.o];rfl,Gd.o.then (Gb.o.then Gh.o)⟩
 | some r=>
  have HS:Hid (res=(!(decide (id=Y2))&&(decide (yh r.key=id)&&l.any (z7 n v l id r.key)))):=qI HS.o
  have HF:=qI (Jh.o r rfl)
  have Ge:=qI HF.o.1
  have Gy:Hid (yD.root.length=32):=qI Wk
  have CI:Hid (Cq W1 43 #[.agg (ye r.key)] (.string (yh r.key))):=qI (fun w2 hk=>QB r.key HF.o.2 HF.o.1 w2 (HT.o.kept0 hk) (Jn.o.kept0 hk))
  have CH:Hid (∀ w2,zb [] W1 w2→∀ (i:Nat) (hi:i<l.length),Calls Tryz.prog 62 #[.agg #[.int .i64 kd,.int .i64 nm,.string st,.slice p1 i1 d1,.slice p2 i2 d2,.slice a l.length c],.int .i64 i,.agg (ye r.key)] w2 fun e w'=>e = .returned (.bool (qg n v l l[i] r.key))∧zb [] w2 w'):=qI (fun w2 hk i hi=>by
   have h1:=holds_any (HE.o.kept0 hk) (HT.o.kept0 hk) (Jn.o.kept0 hk) r.key HF.o.2 HF.o.1 i hi
   exact h1)
  have Jo:Hid (∀ i (hi:i<l.length),∃ g o,a=some ⟨g,o,none⟩∧W1.cell? ⟨g,o+i*2,none⟩=some (.string l[i].id)∧W1.cell? ⟨g,o+i*2+1,none⟩=some (.string l[i].sig)):=qI (fun i hi=>by
   obtain⟨g,o,h1,-,-,h2⟩:=HE.o.rows.cells Ws
   exact⟨g,o,h1,h2 i hi 0 _ rfl,h2 i hi 1 _ rfl⟩)
  have HP:Hid (∀ i (hi:i<l.length),z7 n v l id r.key l[i]=(decide (l[i].id=id)&&qg n v l l[i] r.key)):=qI (fun i hi=>rfl)
  have Ji:Hid (∀ k (hk:k<l.length),(l.take k).any (z7 n v l id r.key)=false→(l.take (k+1)).any (z7 n v l id r.key)=z7 n v l id r.key l[k]):=qI (fun k hk h=>any_take _ l k hk h)
  have Jj:Hid (∀ k,(l.take k).any (z7 n v l id r.key)=true→l.any (z7 n v l id r.key)=true):=qI (fun k h=>by
   rw [List.any_eq_true] at h ⊢
   obtain⟨x,h1,h2⟩:=h
   exact⟨x,List.mem_of_mem_take h1,h2⟩)
  have CF:Hid (Cz W1 61 #[.slice a2 kn c2,.string id] (.tuple #[.agg (ye r.key),.bool true])):=CF
  clear HE Jh HT Jn HF
  generalize r.key=key at HS Ge CI CH HP Ji Jj CF
  generalize hkid:yh key=kid at HS CI
  clear hkid
  by_cases hz:id=Y2
  ·have f1:id.toList.isEmpty=true:=(JY id).2 hz
   have HR:Hid (res=false):=qI (by rw [HS.o,decide_eq_true hz];rfl)
   clear hz HS CI CH Jo HP Ji Jj
   go_enter func29,ntmps29
   go_upto_region 1 with fail
   refine yq Gq.o ?_
   go_upto_region 2 with first
    | (go_at_call 61;refine CF.o.mh ?_;rintro e w2 rfl Gb)
    | (refine xB Wk (.tmp 7) (.tmp 15) Wk (g:=w2.heap.size) (k:=key) (k0:=yD) (zd rfl) Gy.o Ge.o Wk Wk ?_;intro w4 h4 hk4;have Jb:=qI h4;have Gh:Hid (zb [] W1 w4):=qI (Gb.o.then (((zb.refl [] w2).alloc _).trans hk4 (by intro i hi;simp at hi;subst hi;exact .inr (Nat.le_refl _))));clear h4 hk4;simp only [Act.put])
   go_wp2_with fail
   go_ret
   exact⟨by rw [HR.o];rfl,Gd.o.then Gh.o⟩
  have f1:id.toList.isEmpty=false:=by
   cases hq:id.toList.isEmpty with
   | false=>rfl
   | true=>exact absurd ((JY id).1 hq) hz
  rw [decide_eq_false hz] at HS
  clear hz
  by_cases hid:kid=id
  rotate_left
  ·obtain⟨g1,g2⟩:=ke hid
   have HR:Hid (res=false):=qI (by rw [HS.o,decide_eq_false hid];rfl)
   clear hid HS CH Jo HP Ji Jj
   go_enter func29,ntmps29
   go_upto_region 1 with fail
   refine yq Gq.o ?_
   go_upto_region 2 with first
    | (go_at_call 61;refine CF.o.mh ?_;rintro e w2 rfl Gb)
    | (refine xB Wk (.tmp 7) (.tmp 15) Wk (g:=w2.heap.size) (k:=key) (k0:=yD) (zd rfl) Gy.o Ge.o Wk Wk ?_;intro w4 h4 hk4;have Jb:=qI h4;have Gh:Hid (zb [] W1 w4):=qI (Gb.o.then (((zb.refl [] w2).alloc _).trans hk4 (by intro i hi;simp at hi;subst hi;exact .inr (Nat.le_refl _))));clear h4 hk4;simp only [Act.put])
   go_wp2_with first
    | (refine yK Wk (.tmp 7) Wk Jb.o Ge.o Wk ?_)
    | (go_at_call 43;refine (CI.o _ Gh.o).mh ?_;rintro e w5 rfl Jc)
   go_ret
   exact⟨by rw [HR.o];rfl,Gd.o.then (Gh.o.then Jc.o)⟩
  obtain⟨g1,g2⟩:=ky hid
  rw [decide_eq_true hid] at HS
  have HS:Hid (res=l.any (z7 n v l id key)):=qI HS.o
  clear hid
  go_enter func29,ntmps29
  go_upto_region 1 with fail
  refine yq Gq.o ?_
  go_upto_region 2 with first
   | (go_at_call 61;refine CF.o.mh ?_;rintro e w2 rfl Gb)
   | (refine xB Wk (.tmp 7) (.tmp 15) Wk (g:=w2.heap.size) (k:=key) (k0:=yD) (zd rfl) Gy.o Ge.o Wk Wk ?_;intro w4 h4 hk4;have Jb:=qI h4;have Gh:Hid (zb [] W1 w4):=qI (Gb.o.then (((zb.refl [] w2).alloc _).trans hk4 (by intro i hi;simp at hi;subst hi;exact .inr (Nat.le_refl _))));clear h4 hk4;simp only [Act.put])
  go_upto_region 4 with first
   | (refine yK Wk (.tmp 7) Wk Jb.o Ge.o Wk ?_)
   | (go_at_call 43;refine (CI.o _ Gh.o).mono ?_;rintro e w5 ⟨rfl,hk5⟩;have Jc:=qI hk5;have Gr:=qI (Gh.o.then hk5);clear hk5)
  have Jd:=Gr.o.heap Gx.o Wz
  have c5:=za (o:=5) Jd rfl
  clear Jd g1 g2 f1
  have Mb:=qI (Jb.o.kept0 Jc.o)
  generalize hm:l.length=m at hmI c5 Gq ⊢
  go_wp2_with fail
  clear c5
  have Jk:=qI hm
  clear hm
  go_loopw [9,10,32] (fun _ _ idx wr=>∃ k:Nat,idx = .int .i64 k∧k≤m∧(l.take k).any (z7 n v l id key)=false∧zb [] w5 wr) (fun _ _ idx _=>m-(intOf idx).toNat)
  case atStart=>exact⟨0,rfl,Nat.zero_le _,rfl,Wd⟩
  case round=>
   obtain⟨k,rfl,hk,hno,hkr⟩:=hrel
   have Jv:=qI hno
   have Gj:=qI hkr
   clear hno hkr
   rcases Nat.lt_or_ge k m with hlt | hlt
   ·have hltI:(k:Int)<m:=by omega
    have hkl:k<l.length:=by rw [Jk.o];exact hlt
    obtain⟨g,o,rfl,y0,y1⟩:=Jo.o k hkl
    have Gf:Hid (zb [] W1 wr):=qI (Gr.o.then Gj.o)
    have z0:=Gf.o.cell y0 Wz
    have z1:=Gf.o.cell y1 Wz
    have Gk:=qI (HP.o k hkl)
    have Gz:=qI (Ji.o k hkl Jv.o)
    have CHK:Hid (∀ w2,zb [] W1 w2→_):=qI (fun w2 (hk:zb [] W1 w2)=>CH.o w2 hk k hkl)
    clear y0 y1
    generalize hlk:l[k]=row at z0 z1 Gk Gz CHK
    clear hlk
    have Gs:=qI hlt
    clear hlt
    clear hkl
    go_upto_region 7 with fail
    obtain⟨W6,Jp⟩:∃ W6,Hid (W6=wr.alloc (.cells #[.string row.id,.string row.sig] 40)):=⟨_,qI rfl⟩
    have Ja:Hid (zb [] wr W6):=qI (kA1 Jp.o)
    have Mc:Hid (W6.heap[wr.heap.size]? = some (.cells #[.string row.id,.string row.sig] 40 (0,0))):=qI (by rw [Jp.o];exact zd rfl)
    rw [← Jp.o]
    have x0:=za (o:=0) Mc.o rfl
    have Gt:Hid (zb [] W1 W6):=qI (Gf.o.then Ja.o)
    clear z0 z1
    by_cases hid:row.id=id
    ·obtain⟨f1,f2⟩:=ky hid
     rw [decide_eq_true hid] at Gk
     have Gk:Hid (z7 n v l id key row=qg n v l row key):=qI Gk.o
     clear hid
     have Gm:=Gt.o.heap Gx.o Wz
     rw [Jk.o] at Gm
     obtain⟨b0,b1,b2,b3,b4,b5⟩:=xT Gm
     clear Gm
     have Jw:Hid (yw W6 w2.heap.size key):=qI ((Mb.o.kept0 Gj.o).kept0 Ja.o)
     have CHW:=CHK.o W6 Gt.o
     rw [Jk.o] at CHW
     have CHW:=qI CHW
     clear CHK
     generalize hb:qg n v l row key=b at CHW Gk
     rw [Gk.o] at Gz
     clear Gk hb
     cases b with
     | true=>
      go_wp2_with first
       | (refine yK Wk (.tmp 7) Wk Jw.o Ge.o Wk ?_)
       | (go_at_call 62;refine CHW.o.mh ?_;rintro e w7 rfl Jq)
      go_ret
      exact⟨by rw [HS.o,Jj.o (k+1) Gz.o];rfl,Gd.o.then (Gt.o.then Jq.o)⟩
     | false=>
      go_wp2_with first
       | (refine yK Wk (.tmp 7) Wk Jw.o Ge.o Wk ?_)
       | (go_at_call 62;refine CHW.o.mh ?_;rintro e w7 rfl Jq)
      case roundEnd=>exact⟨⟨k+1,by go_num,by have:=Gs.o;omega,Gz.o,(Gj.o.then Ja.o).then Jq.o⟩,by have:=Gs.o;simp [intOf];omega⟩
    ·obtain⟨f1,f2⟩:=ke hid
     rw [decide_eq_false hid] at Gk
     rw [Gk.o] at Gz
     clear hid CHK
     go_wp2_with fail
     case roundEnd=>exact⟨⟨k+1,by go_num,by have:=Gs.o;omega,Gz.o,Gj.o.then Ja.o⟩,by have:=Gs.o;simp [intOf];omega⟩
   ·obtain rfl:k=m:=by omega
    go_wp2_with fail
    go_ret
    refine⟨?_,Gd.o.then (Gr.o.then Gj.o)⟩
    have h1:=Jv.o
    rw [List.take_of_length_le (by rw [Jk.o];exact Nat.le_refl _)] at h1
    rw [HS.o,h1];rfl
theorem tyTexts:yU Tryz.prog 29 9 1 16 (.string ByteArray.empty):=⟨underlying29,Wr,rfl,Wo⟩
theorem texts_one (l:List ByteArray):∀ u∈l.map Value.string,u.oneCell'=true:=by
 intro u hu
 obtain⟨x,-,rfl⟩:=List.mem_map.1 hu
 rfl
@[go_sem] theorem eqlNilTexts (w:World) (a:Option Addr) (n c:Nat):(binOp .eql 29 (.slice a n c) (.slice none 0 0)).run Tryz.prog w = .ok (.bool a.isNone) w:=Lib.run_eql_slice_nil w _ _ a n c 0 0 underlying29
theorem JH {w:World}{v:Value}{l:List ByteArray}(h:xJ w v l) (hl:l.length≤1000000) :
  Calls Tryz.prog 27 #[v] w fun e w'=>(∃ a c,e = .returned (.slice a l.length c)∧w'.ownsRow w.heap.size 9 1 (.slice a l.length c) l.length (l.map Value.string))∧zb [] w w':=by
 rcases h.2 with ⟨rfl,h0⟩ | h2
 ·have:l=[]:=List.eq_nil_of_length_eq_zero h0
  subst this
  go_enter func27,ntmps27
  go_wp2
  go_ret
  exact⟨⟨_,_,rfl,World.ownsRow_nil _ _ _ _⟩,Wd⟩
 ·obtain⟨ad,cap,rfl⟩:∃ ad cap,v = .slice (some ad) l.length cap:=by
   rcases h2 with ⟨h0,a,c,rfl,_⟩ | ⟨g,o,c,rfl,_⟩
   ·exact⟨a,c,by rw [h0]⟩
   ·exact⟨_,_,rfl⟩
  have h1:=(zb.refl [] w).alloc (.cells #[] 9)
  have hown:=vO (size:=1) (base:=w.heap.size) (t:=9) w rfl (Nat.le_refl _)
  have hsrc:=h.kept0 h1
  go_enter func27,ntmps27
  go_wp2_with (at_builtin;refine zk tyTexts hown hsrc (texts_one l) (by simp only [maxLen];omega) Ws Wz rfl _ _ rfl rfl rfl ?_;intro v' w1 hown1 hk1 _ hb1)
  rw [Nat.zero_add,List.nil_append] at hown1
  obtain⟨a',c',rfl,-,-⟩:=(Slc.of_row hown1).form
  go_ret
  exact⟨⟨_,_,rfl,hown1⟩,h1.trans hk1 (by simp [Value.ownBlock])⟩
def K6 (W0:World) (F:Nat) (lb:Array Value) (p:ByteArray→Bool):Prop:=∀ (w:World) (x:ByteArray),zb [] W0 w→Calls Tryz.prog F (#[.string x]++lb) w fun e w'=>e = .returned (.bool (!p x))∧zb [] w w'
theorem K2 {W0 w:World}{F:Nat}{lb:Array Value}{p:ByteArray→Bool}(hp:K6 W0 F lb p) (hk:zb [] W0 w) {a:Option Addr}{c:Nat}{l:List ByteArray}(h:xJ w (.slice a l.length c) l) (hl:l.length≤1000000)
  (eg:∀ (args:Array Value) (w:World),(callFunc F args).run Tryz.prog w = .ok (.enter F args) w) :
  Calls Tryz.prog 60 #[.slice a l.length c,.func (.func F) #[] lb] w fun e w'=>((e = .returned (.int .i64 (-1))∧∀ x,x∈l→p x=true)∨∃ (j:Nat) (hj:j<l.length),e = .returned (.int .i64 j)∧p l[j]=false∧∀ x,x∈l.take j→p x=true)∧zb [] w w':=by
 have HP:=qI hp
 have H:=qI h
 have Gf:=qI hk
 have hlI:(l.length:Int)≤1000000:=Ws
 clear hp h hk
 go_enter func60,ntmps60
 go_wp2_with fail
 go_loopw [5,8] (fun _ idx wr=>∃ k:Nat,idx = .int .i64 k∧k≤l.length∧(∀ x,x∈l.take k→p x=true)∧zb [] w wr) (fun _ idx _=>l.length-(intOf idx).toNat)
 case atStart=>exact⟨0,rfl,Nat.zero_le _,Wz,Wd⟩
 case round=>
  obtain⟨k,rfl,hk,hall,hkr⟩:=hrel
  have Gu:=qI hall
  have Gj:=qI hkr
  clear hall hkr
  rcases Nat.lt_or_ge k l.length with hlt | hlt
  ·have hltI:(k:Int)<l.length:=by omega
   obtain⟨g,o,rfl,q0⟩:=(H.o.kept0 Gj.o).at hlt
   have hcall:=HP.o wr l[k] (Gf.o.then Gj.o)
   have HN:Hid (p l[k]=true→∀ x,x∈l.take (k+1)→p x=true):=qI (fun h x hx=>by
    rw [List.take_succ_eq_append_getElem hlt,List.mem_append,List.mem_singleton] at hx
    rcases hx with hx | rfl
    ·exact Gu.o x hx
    ·exact h)
   have HJ:Hid (p l[k]=false→((∃ (j:Nat) (hj:j<l.length),Ending.returned (.int .i64 k) = .returned (.int .i64 j)∧p l[j]=false∧∀ x,x∈l.take j→p x=true))):=qI (fun h=>⟨k,hlt,rfl,h,Gu.o⟩)
   generalize l[k]=u at q0 hcall HN HJ
   have Gs:=qI hlt
   clear hlt
   cases hq:p u with
   | true=>
    rw [hq] at hcall
    have Md:=qI (HN.o hq)
    go_wp2_with (go_at_fn F;refine hcall.mh ?_;rintro e w' rfl Gb)
    case roundEnd=>exact⟨⟨k+1,by go_num,by have:=Gs.o;omega,Md.o,Gj.o.then Gb.o⟩,by have:=Gs.o;simp [intOf];omega⟩
   | false=>
    rw [hq] at hcall
    have Me:=qI (HJ.o hq)
    go_wp2_with (go_at_fn F;refine hcall.mh ?_;rintro e w' rfl Gb)
    go_ret
    exact⟨.inr Me.o,Gj.o.then Gb.o⟩
  ·obtain rfl:k=l.length:=by omega
   go_wp2_with fail
   go_ret
   exact⟨.inl ⟨rfl,fun x hx=>Gu.o x (by rw [List.take_length];exact hx)⟩,Gj.o⟩
theorem qA (a b:List UInt8):yc (a++b)=yc a++yc b:=by
 apply ByteArray.ext
 simp [yc]
theorem getD_map {α β:Type}(f:α→β) (l:List α) (k:Nat) (h:k<l.length) (d:β):(l.map f).getD k d=f l[k]:=by
 rw [List.getD_eq_getElem?_getD,List.getElem?_map,List.getElem?_eq_getElem h]
 rfl
def kN (n : Nat) : Prop := ∀ (v : V n) {S : Nat → Prop} {w : World} {cs : List Value}, Rep n S w cs v → yA n v → zr n v = true →
    Calls Tryz.prog 48 #[.agg cs.toArray] w fun e w'=>e = .returned (.string (yc (zt n v)))∧zb [] w w'
theorem Qg {n:Nat}(known:kN n):kN (n+1):=fun (v:VS (V n)) {S}{w}{cs} h hs hr0=>by
  have Jl:=qI hs
  have Je:=qI hr0
  obtain⟨vl,vm,lcs,mcs,h⟩:=h
  obtain⟨a,c,b,e,rfl,rfl,rfl⟩:=h.forms
  have H:=qI h
  have IH:=qI known
  have hlv:v.l.length≤20000:=by have:=hs.few;omega
  have hmv:v.m.length≤20000:=by have:=hs.few;omega
  have Jx:=qI (Zw hr0 hs)
  obtain⟨W0,Ga⟩:∃ W0,Hid (W0=w.alloc (.cells #[.int .i64 v.kind,.int .i64 v.num,.string v.s,.slice a v.l.length c,.slice b v.m.length e] 25)):=⟨_,qI rfl⟩
  have Gc:Hid (zb [] w W0):=qI (kA1 Ga.o)
  have hown:=jh (jf hr0)
  have Gn:Hid (∀ k:Int,v.kind=k→qq W0 w.heap.size k v.num v.s (.slice a v.l.length c) (.slice b v.m.length e)):=qI (fun k hk=>by rw [Ga.o,← hk];exact xr _ _ _ _ _ _ _)
  clear h hs hr0
  rcases hown with g | g | g | g | g | g
  ·have HE:=qI (write_1 g.1)
   rw [g.1] at Ga ⊢
   clear g Gn
   obtain⟨c0,c1,c2,c3,c4⟩:=xr w 1 v.num v.s (.slice a v.l.length c) (.slice b v.m.length e) 25
   go_enter func48,ntmps48
   go_wp2_with fail
   go_ret
   rw [HE.o,← Ga.o]
   exact⟨rfl,Gc.o⟩
  ·have HE:=qI (write_2 g.1)
   have hn:=g.2.1
   rw [g.1] at Ga ⊢
   clear g Gn
   obtain⟨c0,c1,c2,c3,c4⟩:=xr w 2 v.num v.s (.slice a v.l.length c) (.slice b v.m.length e) 25
   rcases hn with hn | hn
   ·rw [hn] at Ga HE c1 ⊢
    clear hn
    go_enter func48,ntmps48
    go_wp2_with fail
    go_ret
    rw [HE.o,← Ga.o]
    exact⟨rfl,Gc.o⟩
   ·rw [hn] at Ga HE c1 ⊢
    clear hn
    go_enter func48,ntmps48
    go_wp2_with fail
    go_ret
    rw [HE.o,← Ga.o]
    exact⟨rfl,Gc.o⟩
  ·have HE:=qI (write_3 g.1)
   have CD:=qI (refDigits_str v.num Ws Ws W0)
   rw [g.1] at Ga ⊢
   clear g Gn
   obtain⟨c0,c1,c2,c3,c4⟩:=xr w 3 v.num v.s (.slice a v.l.length c) (.slice b v.m.length e) 25
   go_enter func48,ntmps48
   go_wp2_with fail
   rw [← Ga.o]
   refine CD.o.mono ?_
   rintro e w1 ⟨rfl,rfl⟩
   go_wp2_with fail
   go_ret
   rw [HE.o]
   exact⟨rfl,Gc.o⟩
  ·have HE:=qI (write_4 g.1)
   have hsz:v.s.size≤1000000:=by
    have h1:=Jl.o.2
    have h2:v.s.size≤yl (n+1) v:=Nat.le_trans (Nat.le_add_right _ _) (Nat.le_add_right _ _)
    omega
   have CD:=qI (Qm v.s hsz W0)
   rw [g.1] at Ga ⊢
   clear g Gn hsz
   obtain⟨c0,c1,c2,c3,c4⟩:=xr w 4 v.num v.s (.slice a v.l.length c) (.slice b v.m.length e) 25
   go_enter func48,ntmps48
   go_wp2_with fail
   rw [← Ga.o]
   refine CD.o.mono ?_
   rintro e w1 ⟨rfl,hk1⟩
   go_wp2_with fail
   go_ret
   rw [HE.o]
   exact⟨rfl,Gc.o.then hk1⟩
  ·have HE:=qI (write_5 g.1)
   have HL:Hid ((yZ (fun k=>(v.l.map (zt n)).getD k []) v.l.length).length≤3000000):=qI (by have h1:=Jx.o;rw [HE.o,List.length_cons,List.length_append] at h1;omega)
   have Gv:=qI (Gn.o 5 g.1)
   rw [g.1] at Ga ⊢
   clear g Gn
   obtain⟨c0,c1,c2,c3,c4⟩:=xr w 5 v.num v.s (.slice a v.l.length c) (.slice b v.m.length e) 25
   go_enter func48,ntmps48
   go_wp2_with fail
   rw [← Ga.o]
   clear c0 c1 c2 c3 c4
   generalize hit:(fun k=>(v.l.map (zt n)).getD k [])=it at HE HL
   have Jr:Hid (∀ (k:Nat) (h:k<v.l.length),it k=zt n v.l[k]):=qI (fun k h=>by rw [← hit];exact getD_map _ _ _ h _)
   clear hit
   go_loopw [3,4] (fun q i wr=>∃ k:Nat,i = .int .i64 k∧k≤v.l.length∧q = .string (yc (91::yZ it k))∧zb [] W0 wr) (fun _ i _=>v.l.length-(intOf i).toNat)
   case atStart=>exact⟨0,rfl,Nat.zero_le _,rfl,Wd⟩
   case round=>
    obtain⟨k,rfl,hk,rfl,hkw⟩:=hrel
    have Gf:=qI hkw
    obtain⟨d0,d1,d2,d3,d4⟩:=Gv.o.kept0 hkw
    have hle:=jB it hk
    have Gg:Hid ((yc (91::yZ it k)).size≤3000001):=qI (by rw [xv,List.length_cons];have:=HL.o;omega)
    clear hkw hle
    by_cases hlt:k<v.l.length
    ·have hltI:(k:Int)<v.l.length:=by omega
     obtain⟨g,o,cap,kd,nm,st,a1,b1,he,q0,q1,q2,q3,q4,hr⟩:=H.o.at_l (Gc.o.then Gf.o) k hlt
     simp only [Value.slice.injEq] at he
     obtain⟨rfl,-,rfl⟩:=he
     obtain⟨p1,i1,d1',p2,i2,d2',rfl,rfl⟩:=hr.sl
     have CW:=qI (IH.o v.l[k] hr (Jl.o.kid (kZ (List.getElem_mem hlt))) (qR Je.o (kZ (List.getElem_mem hlt))))
     rw [← Jr.o k hlt] at CW
     have hst:=bh it k
     have hle2:=jB it (show k+1≤v.l.length from hlt)
     have Gp:Hid ((yc (it k)).size≤3000001):=qI (by rw [xv];have:=HL.o;omega)
     have Gi:Hid (yc (91::yZ it (k+1))=if k=0 then yc (91::yZ it k)++yc (it k) else yc (91::yZ it k)++⟨#[44]⟩++yc (it k)):=qI (by
      by_cases h0:k=0
      ·rw [if_pos h0,h0,ZE,je,← qA];rfl
      ·rw [if_neg h0,bE it Ws,show (⟨#[44]⟩:ByteArray)=yc [44] from rfl,← qA,← qA];simp)
     clear hr hst hle2
     revert Gg Gp Gi CW
     generalize yc (91::yZ it k)=T
     generalize yc (it k)=U
     intro Gg CW Gp Gi
     have hsT:=Gg.o
     have hsU:=Gp.o
     have hz1:¬ 9223372036854775807<T.size+1:=Ws
     have hz2:¬ 9223372036854775807<T.size+1+U.size:=Ws
     have hz3:¬ 9223372036854775807<T.size+U.size:=Ws
     clear hsT hsU
     by_cases h0:k=0
     ·have hst:=Gi.o
      rw [if_pos h0] at hst
      have Gl:=qI hst
      have h0I:decide (0<k)=false:=decide_eq_false Ws
      clear h0 hst
      go_wp2_with (go_at_call 48;refine CW.o.mh ?_;rintro e w2 rfl Gb)
      case roundEnd=>exact⟨⟨k+1,by go_num,Ws,by rw [Gl.o],Gf.o.then Gb.o⟩,by simp [intOf];omega⟩
     ·have hst:=Gi.o
      rw [if_neg h0] at hst
      have Gl:=qI hst
      have h0I:decide (0<k)=true:=decide_eq_true Ws
      clear h0 hst
      go_wp2_with (go_at_call 48;refine CW.o.mh ?_;rintro e w2 rfl Gb)
      case roundEnd=>exact⟨⟨k+1,by go_num,Ws,by rw [Gl.o],Gf.o.then Gb.o⟩,by simp [intOf];omega⟩
    ·obtain rfl:k=v.l.length:=by omega
     have Gw:Hid (yc (zt (n+1) v)=yc (91::yZ it v.l.length)++⟨#[93]⟩):=qI (by rw [HE.o,show (⟨#[93]⟩:ByteArray)=yc [93] from rfl,← qA];rfl)
     revert Gg Gw
     generalize yc (91::yZ it v.l.length)=T
     intro Gg Gw
     have hsT:=Gg.o
     have hz1:¬ 9223372036854775807<T.size+1:=Ws
     clear hsT
     go_wp2_with fail
     go_ret
     rw [Gw.o]
     exact⟨rfl,Gc.o.then Gf.o⟩
  ·have HE:=qI (write_6 g.1)
   have HL:Hid ((yZ (fun k=>(v.m.map (fun p=>yG p.1.data.toList++(58::zt n p.2))).getD k []) v.m.length).length≤3000000):=qI (by have h1:=Jx.o;rw [HE.o,List.length_cons,List.length_append] at h1;omega)
   have Gv:=qI (Gn.o 6 g.1)
   rw [g.1] at Ga ⊢
   clear g Gn
   obtain⟨c0,c1,c2,c3,c4⟩:=xr w 6 v.num v.s (.slice a v.l.length c) (.slice b v.m.length e) 25
   go_enter func48,ntmps48
   go_wp2_with fail
   rw [← Ga.o]
   clear c0 c1 c2 c3 c4
   generalize hit:(fun k=>(v.m.map (fun p=>yG p.1.data.toList++(58::zt n p.2))).getD k [])=it at HE HL
   have Jr:Hid (∀ (k:Nat) (h:k<v.m.length),it k=yG v.m[k].1.data.toList++(58::zt n v.m[k].2)):=qI (fun k h=>by rw [← hit];exact getD_map _ _ _ h _)
   clear hit
   go_loopw [5,6] (fun q i wr=>∃ k:Nat,i = .int .i64 k∧k≤v.m.length∧q = .string (yc (123::yZ it k))∧zb [] W0 wr) (fun _ i _=>v.m.length-(intOf i).toNat)
   case atStart=>exact⟨0,rfl,Nat.zero_le _,rfl,Wd⟩
   case round=>
    obtain⟨k,rfl,hk,rfl,hkw⟩:=hrel
    have Gf:=qI hkw
    obtain⟨d0,d1,d2,d3,d4⟩:=Gv.o.kept0 hkw
    have hle:=jB it hk
    have Gg:Hid ((yc (123::yZ it k)).size≤3000001):=qI (by rw [xv,List.length_cons];have:=HL.o;omega)
    clear hkw hle
    by_cases hlt:k<v.m.length
    ·have hltI:(k:Int)<v.m.length:=by omega
     obtain⟨g,o,cap,kd,nm,st,a1,b1,he,q0,q1,q2,q3,q4,q5,hr⟩:=H.o.at_m (Gc.o.then Gf.o) k hlt
     simp only [Value.slice.injEq] at he
     obtain⟨rfl,-,rfl⟩:=he
     obtain⟨p1,i1,d1',p2,i2,d2',rfl,rfl⟩:=hr.sl
     have CW:Hid (∀ z:Ext wr,_):=qI (fun z:Ext wr=>IH.o v.m[k].2 (hr.kept0 z.k) (Jl.o.kid (k9 (List.getElem_mem hlt))) (qR Je.o (k9 (List.getElem_mem hlt))))
     have hkS:v.m[k].1.size≤1000000:=by have h1:=Jl.o.2;have h2:=key_le (List.getElem_mem hlt);omega
     have CQ:Hid (∀ z:Ext wr,_):=qI (fun z:Ext wr=>Qm v.m[k].1 hkS z.w)
     have hst:=bh it k
     have hle2:=jB it (show k+1≤v.m.length from hlt)
     have hitk:=Jr.o k hlt
     have hitl:(it k).length≤3000001:=by have:=HL.o;omega
     rw [hitk,List.length_append,List.length_cons] at hitl
     have Jf:Hid ((yc (yG v.m[k].1.data.toList)).size≤3000001):=qI (by rw [xv];omega)
     have Gp:Hid ((yc (zt n v.m[k].2)).size≤3000001):=qI (by rw [xv];omega)
     have Gi:Hid (yc (123::yZ it (k+1))=(if k=0 then yc (123::yZ it k) else yc (123::yZ it k)++⟨#[44]⟩)++yc (yG v.m[k].1.data.toList)++⟨#[58]⟩++yc (zt n v.m[k].2)):=qI (by
      rw [show (⟨#[58]⟩:ByteArray)=yc [58] from rfl]
      by_cases h0:k=0
      ·have e0:yZ it (k+1)=it k:=by rw [h0];exact ZE it
       have e1:yZ it k=[]:=by rw [h0];exact je it
       rw [if_pos h0,e0,e1,← qA,← qA,← qA,hitk]
       simp
      ·rw [if_neg h0,bE it Ws,show (⟨#[44]⟩:ByteArray)=yc [44] from rfl,← qA,← qA,← qA,← qA,hitk]
       simp)
     clear hr hst hle2 hitk hitl hkS
     generalize hky:v.m[k].1=key at q0 Jf Gi CQ
     clear hky
     revert Gg CW Gp Gi Jf CQ
     generalize yc (123::yZ it k)=T
     generalize yc (zt n v.m[k].2)=U
     generalize yc (yG key.data.toList)=Q
     intro Gg CW Gp Jf Gi CQ
     by_cases h0:k=0
     ·have hst:=Gi.o
      rw [if_pos h0] at hst
      have Jg:=qI hst
      have h0I:decide (0<k)=false:=decide_eq_false Ws
      clear h0 hst Gi
      go_wp2_with fail
      have Gl:Hid (T.size≤3000002):=qI (by have:=Gg.o;omega)
      obtain⟨T2,rfl⟩:∃ T2,T2=T:=⟨_,rfl⟩
      have hs2:=Gl.o
      have hq0:=Jf.o
      have hu0:=Gp.o
      have hz2:¬ 9223372036854775807<T2.size+Q.size:=Ws
      have hz3:¬ 9223372036854775807<T2.size+Q.size+1:=Ws
      have hz4:¬ 9223372036854775807<T2.size+Q.size+1+U.size:=Ws
      have e4:=zz d4
      have r0:=zz q0
      have r1:=zz q1
      have r2:=zz q2
      have r3:=zz q3
      have r4:=zz q4
      have r5:=zz q5
      refine yn wr Wr Wr Wd ?_
      clear hs2 hq0 hu0 d0 d1 d2 d3 d4 q0 q1 q2 q3 q4 q5
      repeat go_big_quiet_step (first | (go_at_call 90;exact Zm (CQ.o _)) | (go_at_call 48;exact Zm (CW.o _)))
      refine wpQuiet_nil ?_
      intro w2 hk2
      have Gb:=qI hk2
      clear hk2 e4 r0 r1 r2 r3 r4 r5 hz2 hz3 hz4
      go_wp2_with fail
      case roundEnd=>exact⟨⟨k+1,by go_num,Ws,by rw [Jg.o],Gf.o.then Gb.o⟩,by simp [intOf];omega⟩
     ·have hst:=Gi.o
      rw [if_neg h0] at hst
      have Jg:=qI hst
      have h0I:decide (0<k)=true:=decide_eq_true Ws
      have hsz:=Gg.o
      have hz1:¬ 9223372036854775807<T.size+1:=Ws
      clear h0 hst Gi hsz
      go_wp2_with fail
      have Gl:Hid ((T++⟨#[44]⟩).size≤3000002):=qI (by rw [ByteArray.size_append,show (⟨#[44]⟩:ByteArray).size=1 from rfl];have:=Gg.o;omega)
      clear hz1
      revert Jg Gl
      generalize T++(⟨#[44]⟩:ByteArray)=T2
      intro Jg Gl
      have hs2:=Gl.o
      have hq0:=Jf.o
      have hu0:=Gp.o
      have hz2:¬ 9223372036854775807<T2.size+Q.size:=Ws
      have hz3:¬ 9223372036854775807<T2.size+Q.size+1:=Ws
      have hz4:¬ 9223372036854775807<T2.size+Q.size+1+U.size:=Ws
      have e4:=zz d4
      have r0:=zz q0
      have r1:=zz q1
      have r2:=zz q2
      have r3:=zz q3
      have r4:=zz q4
      have r5:=zz q5
      refine yn wr Wr Wr Wd ?_
      clear hs2 hq0 hu0 d0 d1 d2 d3 d4 q0 q1 q2 q3 q4 q5
      repeat go_big_quiet_step (first | (go_at_call 90;exact Zm (CQ.o _)) | (go_at_call 48;exact Zm (CW.o _)))
      refine wpQuiet_nil ?_
      intro w2 hk2
      have Gb:=qI hk2
      clear hk2 e4 r0 r1 r2 r3 r4 r5 hz2 hz3 hz4
      go_wp2_with fail
      case roundEnd=>exact⟨⟨k+1,by go_num,Ws,by rw [Jg.o],Gf.o.then Gb.o⟩,by simp [intOf];omega⟩
    ·obtain rfl:k=v.m.length:=by omega
     have Gw:Hid (yc (zt (n+1) v)=yc (123::yZ it v.m.length)++⟨#[125]⟩):=qI (by rw [HE.o,show (⟨#[125]⟩:ByteArray)=yc [125] from rfl,← qA];rfl)
     revert Gg Gw
     generalize yc (123::yZ it v.m.length)=T
     intro Gg Gw
     have hsT:=Gg.o
     have hz1:¬ 9223372036854775807<T.size+1:=Ws
     clear hsT
     go_wp2_with fail
     go_ret
     rw [Gw.o]
     exact⟨rfl,Gc.o.then Gf.o⟩
theorem jT:∀ (n:Nat),kN n
 | 0=>fun v {_}{_}{_} h _ _=>h.elim
 | n+1=>Qg (jT n)
theorem Y1:∀ (n:Nat) (v:V n) {S:Nat→Prop}{w:World}{cs:List Value},Rep n S w cs v→yA n v→zr n v=true →
  Calls Tryz.prog 48 #[.agg cs.toArray] w fun e w'=>e = .returned (.string (yc (zt n v)))∧zb [] w w':=fun n=>jT n
theorem KQ (k:zY) (h:zI k=true):zr 3 (vT k)=true∧yQ 3 (vT k)=0:=by
 have hv:=(kH.1 (Z0 k h)).2.2
 have e:zr 3 (ka k)=(zx (ka k:VS (V 2))&&(ka k:VS (V 2)).kids.all (zr 2)):=rfl
 rw [e,Bool.and_eq_true,List.all_eq_true] at hv
 have hval:zr 2 (j7 k)=true:=hv.2 (j7 k) (List.Mem.tail _ (List.Mem.tail _ (List.Mem.head _)))
 obtain⟨-,-,-,l4,l5,l6,l7,l8⟩:=lits_ok
 have hr:zr 3 (vT k)=true:=by
  refine QJ (n:=2) _ (by simp [l4,l5,l6]) (by simp only [List.map_cons,List.map_nil];decide) ?_
  intro p hp
  simp only [List.mem_cons,List.not_mem_nil,or_false] at hp
  rcases hp with rfl | rfl | rfl
  ·exact vz (n:=1) _ l7
  ·exact hval
  ·exact vz (n:=1) _ l8
 exact⟨hr,kH.2 ⟨Nat.le_trans (depth_le 3 _) Wo,by show (7:Nat)≤4096;omega,hr⟩⟩
theorem K9 (k:zY) (h:k.root.length=32):yA 3 (vT k):=by
 have e:=(QF k h).2
 have e2:yl 3 (vT k)=0+(7+(6+(6+0)))+((14+0+0)+(yl 2 (j7 k)+((6+0+0)+0))):=rfl
 have e3:yl 2 (j7 k)=0+(4+(6+(6+0)))+((0+0+0)+((0+0+0)+(((qp k.root).size+0+0)+0))):=rfl
 have e4:=kI k.root
 exact⟨by show (7:Nat)≤20000;omega,by rw [e2,e3,e4,h];omega⟩
theorem keyR_sort (k:zY):zy 3 (vT k)=zy 3 (ka k):=by
 have hn:((((vT k:VS (V 2)).m.map (fun p=>(p.1,zy 2 p.2))).mergeSort leK).map (fun p=>p.1)).Nodup:=by
  refine ((List.mergeSort_perm ((vT k:VS (V 2)).m.map (fun p=>(p.1,zy 2 p.2))) leK).map (fun p:ByteArray×V 2=>p.1)).nodup_iff.2 ?_
  show ([⟨#[107,101,121,116,121,112,101]⟩,⟨#[107,101,121,118,97,108]⟩,⟨#[115,99,104,101,109,101]⟩]:List ByteArray).Nodup
  decide
 have hp:(((vT k:VS (V 2)).m.map (fun p=>(p.1,zy 2 p.2))).mergeSort leK).Perm (((ka k:VS (V 2)).m.map (fun p=>(p.1,zy 2 p.2))).mergeSort leK):=by
  refine ((List.mergeSort_perm _ _).trans ?_).trans (List.mergeSort_perm _ _).symm
  refine List.Perm.map _ ?_
  exact List.Perm.cons _ (List.Perm.swap _ _ _)
 have he:=jj hp (List.pairwise_mergeSort kF bg _) (List.pairwise_mergeSort kF bg _) hn
 show (⟨6,0,⟨#[]⟩,[],_⟩:VS (V 2))=⟨6,0,⟨#[]⟩,[],_⟩
 exact congrArg (fun m=>(⟨6,0,⟨#[]⟩,[],m⟩:VS (V 2))) he
theorem keyR_enc (k:zY) (hr:k.root.length=32) (h:zI k=true):zt 3 (zy 3 (vT k))=(qB 3 (ka k)).1∧(zt 3 (zy 3 (vT k))).length≤262144:=by
 have hc:=Z0 k h
 have hl:=(Km k hr h)
 rw [keyR_sort]
 by_cases q:(zt 3 (zy 3 (ka k))).length≤262144
 ·rw [bD hc q];exact⟨rfl,q⟩
 ·exfalso
  rw [Qs hc Ws] at hl
  cases hl.1
theorem small_sorted {n:Nat}{v:V n}(h:yA n v):yA n (zy n v):=⟨by rw [vo];exact h.1,by rw [jW];exact h.2⟩
theorem jL (k:zY) (hb:qX k.bits) (hr:k.root.length=32) (w:World):CL w 18 #[.agg (ye k)] (.string (yh k)):=by
 obtain⟨W0,Ga⟩:∃ W0,Hid (W0=w.alloc (.cells (ye k) 47)):=⟨_,qI rfl⟩
 have Gc:Hid (zb [] w W0):=qI (kA1 Ga.o)
 have HA:Hid (yw W0 w.heap.size k):=qI (by rw [Ga.o];exact zd rfl)
 have Ge:=qI hr
 have CM:=qI (jk k hb W0)
 have CV:=qI (Q8 k hb hr)
 have Js:Hid (yh k=if zI k=true then qp (zV (qB 3 (ka k)).1) else ⟨#[]⟩):=qI rfl
 clear hb hr
 by_cases hm:zI k=true
 rotate_left
 ·have Jt:Hid (yh k=⟨#[]⟩):=qI (by rw [Js.o,if_neg hm])
  have hm2:zI k=false:=by simpa using hm
  rw [hm2] at CM
  clear hm hm2
  go_enter func18,ntmps18
  go_upto_region 1 with fail
  rw [← Ga.o]
  go_wp2_with first
   | (refine zO Wk (.tmp 1) Wk HA.o Ge.o Wk ?_)
   | (go_at_call 46;refine CM.o.mh ?_;rintro e w1 rfl Gd)
  go_ret
  exact⟨by rw [Jt.o];rfl,Gc.o.then Gd.o⟩
 obtain⟨X,HX⟩:∃ X,Hid (X=zt 3 (zy 3 (vT k))):=⟨_,qI rfl⟩
 have Jt:Hid (yh k=qp (zV X)):=qI (by rw [Js.o,if_pos hm,HX.o,(keyR_enc k Ge.o hm).1])
 have Jy:Hid (X.length≤262144):=qI (by rw [HX.o];exact (keyR_enc k Ge.o hm).2)
 have CV2:Hid (∀ w1,Calls Tryz.prog 50 #[.agg (ye k)] w1 fun e w'=>(∃ k3 m3 s3 p3 i3 c3 q3 j3 e3,e = .returned (.agg #[.int .i64 k3,.int .i64 m3,.string s3,.slice p3 i3 c3,.slice q3 j3 e3])∧Rep 3 (fun _=>True) w' [.int .i64 k3,.int .i64 m3,.string s3,.slice p3 i3 c3,.slice q3 j3 e3] (vT k))∧zb [] w1 w'):=qI (fun w1=>by
  refine (CV.o w1).mono ?_
  rintro e w' ⟨h9,hk9⟩
  unfold ZU at h9
  rw [if_pos hm] at h9
  obtain⟨cs,rfl,h8⟩:=h9
  obtain⟨k3,m3,s3,p3,i3,c3,q3,j3,e3,rfl⟩:=h8.conv
  exact⟨⟨k3,m3,s3,p3,i3,c3,q3,j3,e3,rfl,h8.mono (fun _ _ _=>trivial)⟩,hk9⟩)
 have CSO:Hid (∀ (w1:World) (cs:List Value),Rep 3 (fun _=>True) w1 cs (vT k)→Calls Tryz.prog 49 #[.agg cs.toArray] w1 fun e w'=>(∃ k3 m3 s3 p3 i3 c3 q3 j3 e3,e = .returned (.agg #[.int .i64 k3,.int .i64 m3,.string s3,.slice p3 i3 c3,.slice q3 j3 e3])∧Rep 3 (fun _=>True) w' [.int .i64 k3,.int .i64 m3,.string s3,.slice p3 i3 c3,.slice q3 j3 e3] (zy 3 (vT k)))∧zb [] w1 w'):=qI (fun w1 cs hc=>by
  refine (ZG 3 (vT k) hc (K9 k Ge.o) (KQ k hm).1).mono ?_
  rintro e w' ⟨⟨cs',rfl,h8⟩,hk9⟩
  have h8:=h8.rep
  obtain⟨k3,m3,s3,p3,i3,c3,q3,j3,e3,rfl⟩:=h8.conv
  exact⟨⟨k3,m3,s3,p3,i3,c3,q3,j3,e3,rfl,h8.mono (fun _ _ _=>trivial)⟩,hk9⟩)
 have CWR:Hid (∀ (w1:World) (cs:List Value),Rep 3 (fun _=>True) w1 cs (zy 3 (vT k))→Calls Tryz.prog 48 #[.agg cs.toArray] w1 fun e w'=>e = .returned (.string (yc X))∧zb [] w1 w'):=qI (fun w1 cs hc=>by
  rw [HX.o]
  exact Y1 3 (zy 3 (vT k)) hc (small_sorted (K9 k Ge.o)) (by rw [kp];exact (KQ k hm).1))
 rw [hm] at CM
 clear hm CV Js
 go_enter func18,ntmps18
 go_upto_region 1 with fail
 rw [← Ga.o]
 go_upto_region 3 with first
  | (refine zO Wk (.tmp 1) Wk HA.o Ge.o Wk ?_)
  | (go_at_call 46;refine CM.o.mono ?_;rintro e w1 ⟨rfl,hk1⟩;have Gd:=qI hk1;have Mf:=qI (yw.kept0 HA.o hk1);clear hk1)
 go_upto_region 4 with first
  | (refine zO Wk (.tmp 1) Wk Mf.o Ge.o Wk ?_)
  | (go_at_call 50;refine (CV2.o _).mono ?_;rintro e w2 ⟨⟨k3,m3,s3,p3,i3,c3,q3,j3,e3,rfl,h3⟩,hk2⟩;have H3:=qI h3;have Gb:=qI (Gd.o.then hk2);clear hk2 h3)
  | (go_at_call 49;refine (CSO.o _ _ H3.o).mono ?_;rintro e w3 ⟨⟨k4,m4,s4,p4,i4,c4,q4,j4,e4,rfl,h4⟩,hk3⟩;have H4:=qI h4;have Jm:=qI (Gb.o.then hk3);clear hk3 h4)
  | (go_at_call 48;refine (CWR.o _ _ H4.o).mono ?_;rintro e w4 ⟨rfl,hk4⟩;have Gh:=qI (Jm.o.then hk4);clear hk4;obtain⟨ba,bn,bc,w5,hcv,hbn,hb5,hk5⟩:=QH w4 (yc X) (by rw [xv];have:=Jy.o;omega);rw [xZ] at hbn hb5;subst hbn;have Mk:=qI hb5;have Jc:=qI (Gh.o.then hk5);have CO:=qI (YT w5 ba bc X hb5 (by have:=Jy.o;omega));clear hk5 hb5)
  | (go_at_call 47;refine CO.o.mono ?_;rintro e w6 ⟨rfl,hk6⟩;have Ja:=qI (Jc.o.then hk6);clear hk6)
  | (refine zq Wk (.tmp 3) (.tmp 12) Wk (g:=w6.heap.size) (l:=zV X) (l0:=xe zu 0) (zd rfl) (zJ _ _) (yt X) Wk Wk ?_;intro w7 h7 hk7;have Jz:=qI h7;have Ju:Hid (zb [] w6 w7):=qI (((zb.refl [] w6).alloc _).trans hk7 (by intro i hi;simp at hi;subst hi;exact .inr (Nat.le_refl _)));clear h7 hk7;simp only [Act.put])
 have Mg:Hid (Cz w7 51 #[.slice (some ⟨w6.heap.size,0,none⟩) 32 32] (.string (qp (zV X)))):=qI (by
  have hb:zp w7 (.slice (some ⟨w6.heap.size,0,none⟩) (zV X).length 32) (zV X):=⟨Wz,.inr (.inr ⟨w6.heap.size,0,32,rfl,by rw [yt];omega,Wo,⟨Jz.o.range,Jz.o.lt⟩⟩)⟩
  have h9:=YZ hb (by rw [yt];decide)
  rw [yt] at h9
  exact h9)
 go_wp2_with (go_at_call 51;refine Mg.o.mh ?_;rintro e w8 rfl Mh)
 go_ret
 exact⟨by rw [Jt.o];rfl,((Gc.o.then Ja.o).then Ju.o).then Mh.o⟩
section
variable {P : Program} (w : World)
end
section
variable {n : Nat} {v : V n} {S : Nat → Prop} {w : World} {cs : List Value}
theorem refEncode_any (h:Rep n S w cs v) (hs:yA n v) (hn:n≤100) :
  Calls Tryz.prog 161 #[.agg cs.toArray] w fun e w'=>(∃ a c,e = .returned (.tuple #[.slice a (qB n v).1.length c,.int .i64 (qB n v).2])∧zp w' (.slice a (qB n v).1.length c) (qB n v).1)∧zb [] w w':=by
 obtain⟨kd,nm,st,a,ca,ea,b,cb,eb,rfl⟩:=h.conv
 obtain⟨W0,Ga⟩:∃ W0,Hid (W0=w.alloc (.cells #[.int .i64 kd,.int .i64 nm,.string st,.slice a ca ea,.slice b cb eb] 25)):=⟨_,qI rfl⟩
 have Gc:Hid (zb [] w W0):=qI (kA1 Ga.o)
 have Gx:Hid (qq W0 w.heap.size kd nm st (.slice a ca ea) (.slice b cb eb)):=qI (by rw [Ga.o];exact xr _ _ _ _ _ _ _)
 have CC:=qI (Y9 (h.kept0 Gc.o) hs hn)
 have CT:Hid (∀ w1,zb [] W0 w1→zr n v=true→_):=qI (fun w1 (k:zb [] W0 w1) (hr:zr n v=true)=>ZG n v ((h.kept0 Gc.o).kept0 k) hs hr)
 have CR:=qI (fun hr:zr n v=true=>Zw (n:=n) (v:=zy n v) (by rw [kp];exact hr) (YQ hs))
 have Mi:=qI (YQ hs)
 clear h hs
 by_cases hc:yQ n v=0
 rotate_left
 ·have HE:=qI (J1 hc)
  obtain⟨f1,f2⟩:=yF hc
  clear hc
  obtain⟨c0,c1,c2,c3,c4⟩:=Gx.o
  rw [Ga.o] at c0 c1 c2 c3 c4
  go_enter func161,ntmps161
  go_wp2_with fail
  rw [← Ga.o]
  refine CC.o.mono ?_
  rintro e w1 ⟨rfl,hk1⟩
  go_wp2_with fail
  go_ret2
  rw [HE.o]
  exact⟨⟨_,_,rfl,yV _ _⟩,Gc.o.then hk1⟩
 have HC:=qI hc
 have hr:=Zg hc
 have Je:=qI hr
 have hlen:=CR.o hr
 clear hc hr
 obtain⟨c0,c1,c2,c3,c4⟩:=Gx.o
 rw [Ga.o] at c0 c1 c2 c3 c4
 go_enter func161,ntmps161
 go_wp2_with fail
 rw [← Ga.o]
 clear c0 c1 c2 c3 c4
 refine CC.o.mono ?_
 rintro e w1 ⟨rfl,hk1⟩
 rw [HC.o]
 obtain⟨c0,c1,c2,c3,c4⟩:=Gx.o.kept0 hk1
 have Gd:=qI hk1
 clear hk1
 go_wp2_with fail
 refine (CT.o _ Gd.o Je.o).mono ?_
 rintro e w2 ⟨⟨cs2,rfl,ho2⟩,hk2⟩
 obtain⟨k3,m3,s3,p3,i3,c3',q3,j3,d3,rfl⟩:=ho2.rep.conv
 have CW:=qI (Y1 n (zy n v) ho2.rep Mi.o (by rw [kp];exact Je.o))
 have Gb:=qI (Gd.o.then hk2)
 clear hk2 ho2 c0 c1 c2 c3 c4
 go_wp2_with fail
 refine CW.o.mono ?_
 rintro e w3 ⟨rfl,hk3⟩
 have Jm:=qI (Gb.o.then hk3)
 have Ma:Hid ((yc (zt n (zy n v))).size=(zt n (zy n v)).length∧(yc (zt n (zy n v))).data.toList=zt n (zy n v)):=qI ⟨xv _,xZ _⟩
 have hsb:=Ma.o.1
 clear hk3
 by_cases hl:262144<(zt n (zy n v)).length
 ·have HE:=qI (Qs HC.o hl)
  rw [← hsb] at hl
  revert hl
  generalize yc (zt n (zy n v))=T
  intro hl
  have hsI:(262144:Int)<T.size:=Ws
  clear hsb hlen hl
  go_wp2_with fail
  go_ret2
  rw [HE.o]
  exact⟨⟨_,_,rfl,yV _ _⟩,Gc.o.then Jm.o⟩
 ·have HE:=qI (bD HC.o Ws)
  obtain⟨a2,n2,c2',w4,hrun,hn2,hb3,hk4⟩:=QH w3 (yc (zt n (zy n v))) Ws
  rw [Ma.o.2] at hn2 hb3
  subst hn2
  have Mj:=qI hb3
  have Gh:=qI hk4
  rw [← hsb] at hl
  revert hl hrun
  generalize yc (zt n (zy n v))=T
  intro hl hrun
  have hsI:(T.size:Int)≤262144:=Ws
  clear hsb hk4 hb3 hlen hl
  go_wp2_with fail
  go_ret2
  rw [HE.o]
  exact⟨⟨_,_,rfl,Mj.o⟩,(Gc.o.then Jm.o).then Gh.o⟩
end
end Go.Proofs.YtibnfbglanpoiaaGreatDoor

/- Parts of one proof, merged: XIN XBA XCU XCV XAV XJT XGU XED XKK XCW XCY XJU XGD XJN XHb. -/
import Derived.Test.YtibnfbglanpoiaaGreatDoorQeQ
import Derived.Deep.Slices
import Derived.OpenShut
import Derived.SizedLaws
import Derived.Test.YtibnfbglanpoiaaGreatDoorQeR
import Derived.Great.BuildSlice
import Derived.Handed
set_option linter.all false
set_option maxHeartbeats 12800000
set_option maxRecDepth 100000
namespace Go.Proofs.YtibnfbglanpoiaaGreatDoor
open Go.Proofs.Tryz
open Go.RowKit
def kw (id:ByteArray) (k:zY):List Value:=.string id::kz k
theorem qj {id:ByteArray}{k:zY}(h:k.root.length=32):(kw id k).length=35:=by simp [kw,xE h]
theorem rowL_one (id:ByteArray) (k:zY):∀ v∈kw id k,v.oneCell'=true:=by
 intro v hv
 rcases List.mem_cons.1 hv with rfl | hv
 ·rfl
 ·exact KT k v hv
def vM (w:World) (g:Nat) (id:ByteArray) (k:zY):Prop:=w.heap[g]? = some (.cells (kw id k).toArray 49 (0,0))
theorem vM.kept0 {w w':World}{g:Nat}{id:ByteArray}{k:zY}(h:vM w g id k) (hk:zb [] w w'):vM w' g id k:=hk.heap h Wz
theorem vM.c0 {w:World}{g:Nat}{id:ByteArray}{k:zY}(h:vM w g id k):w.cell? ⟨g,0,none⟩=some (.string id):=za h rfl
theorem vM.there {w:World}{g:Nat}{id:ByteArray}{k:zY}(h:vM w g id k) (hl:k.root.length=32):w.there g 0 35:=fun j hj=>by
 rw [Nat.zero_add]
 have hj':j<(kw id k).length:=by rw [qj hl];exact hj
 exact⟨by rw [za (v:=(kw id k)[j]) h (by simp [hj'])];rfl,zh h⟩
theorem vM.put {w:World}{g:Nat}{id id':ByteArray}{k k':zY}(h:vM w g id k) (hl:k.root.length=32) (hl':k'.root.length=32):vM (w.setCells g 0 (kw id' k')) g id' k':=by
 obtain⟨cur,h1,h2,h3⟩:=xM g (kw id' k') 0 w _ h
 have hz:(kw id k).toArray.size=35:=by simp [qj hl]
 have e:cur=(kw id' k').toArray:=by
  apply Array.ext
  ·rw [h2,hz];simp [qj hl']
  ·intro i hi1 hi2
   have hi3:i<35:=by rw [h2,hz] at hi1;exact hi1
   have h4:=h3 i (by rw [hz];exact hi3)
   rw [if_pos (by rw [qj hl'];omega),Array.getElem?_eq_getElem hi1,Nat.sub_zero,List.getElem?_eq_getElem (by rw [qj hl'];exact hi3)] at h4
   rw [Option.some.inj h4]
   simp
 unfold vM
 rw [h1,e]
theorem info35:(Tryz.prog.info? 49).map (·.size)=some 35:=Wr
theorem wpList_load35 {ops:Array Oper}{rest:List Oper}{op:Oper}{a:Act}{w:World}{Q:Exit→Act→World→Prop}(hgd:op.guard=none) (x:Operand) (ho:op.op = .load 49 x) {g of:Nat}{id:ByteArray}{k:zY}(h0:w.rangeAt g of (kw id k)) (hl:k.root.length=32)
  (hx:a.eval x = .pointer (some ⟨g,of,none⟩)) (h:wpList Tryz.prog ops Q rest (a.put op.dst (.agg (kw id k).toArray)) w):wpList Tryz.prog ops Q (op::rest) a w:=
 wpList_load_mid hgd 49 x ho g of hx (kw id k) _ h0 underlying49 rfl (by rw [qj hl];exact info35) h
theorem JZ {ops:Array Oper}{rest:List Oper}{op:Oper}{a:Act}{w:World}{Q:Exit→Act→World→Prop}(hgd:op.guard=none) (x y:Operand) (ho:op.op = .store 49 x y) {g:Nat}{id id0:ByteArray}{k k0:zY}(h0:vM w g id0 k0) (hl0:k0.root.length=32) (hl:k.root.length=32)
  (hx:a.eval x = .pointer (some ⟨g,0,none⟩)) (hy:a.eval y = .agg (kw id k).toArray) (h:∀ w',vM w' g id k→zb [g] w w'→wpList Tryz.prog ops Q rest (a.put op.dst undef) w'):wpList Tryz.prog ops Q (op::rest) a w:=by
 have hsz:(kw id k).toArray.size=35:=by simp [qj hl]
 refine wpList_store_mid hgd 49 x y ho g 0 (kw id k).toArray hx hy (by rw [hsz];exact h0.there hl0) (by rw [hsz];exact info35) (all_oneCell_toArray (rowL_one id k)) (h _ ?_ (yo _ _ _ _))
 exact h0.put hl0 hl
theorem jI {ops:Array Oper}{rest:List Oper}{op:Oper}{a:Act}{w:World}{Q:Exit→Act→World→Prop}(hw:Region.wanted op (yielded ops a.tmps)=true) (x:Operand) (ho:op.op = .load 47 x) {g of:Nat}{k:zY}(h0:w.rangeAt g of (kz k)) (hl:k.root.length=32)
  (hx:a.eval x = .pointer (some ⟨g,of,none⟩)) (h:wpList Tryz.prog ops Q rest (a.put op.dst (.agg (ye k))) w):wpList Tryz.prog ops Q (op::rest) a w:=
 BigFrame.wpList_want hw fun _ hK=>wp_load_mid 47 x ho g of hx (kz k) _ h0 underlying47 rfl (by rw [xE hl];exact YM) (hK _ _ h)
theorem Kw {k:zY}(h:zI k=true):(yh k).size=64:=by
 unfold yh
 rw [if_pos h,kI,yt]
structure xW where
 id:ByteArray
 key:zY
def xW.enc (r:xW):List Value:=kw r.id r.key
def xW.fine (r:xW):Prop:=r.key.root.length=32∧qX r.key.bits
def vW (l:List xW):List Value:=l.flatMap xW.enc
structure xP (w:World) (v:Value) (l:List xW):Prop where
 slc:Slc w 35 v l.length (vW l)
 fine:∀ r,r∈l→r.fine
 few:l.length≤1000000
theorem xP.kept0 {w w':World}{v:Value}{l:List xW}(h:xP w v l) (k:zb [] w w'):xP w' v l:=⟨Slc.kept0 h.slc k,h.fine,h.few⟩
theorem krowsL_at:∀ (l:List xW) (_:∀ r,r∈l→r.fine) (j:Nat) (hj:j<l.length) (i:Nat) (_:i<35),(vW l)[j*35+i]? = (l[j].enc)[i]?
 | r::t,hf,0,_,i,hi=>by
  have hl:r.enc.length=35:=qj (hf r Wz).1
  show (r.enc++vW t)[0*35+i]? = _
  rw [List.getElem?_append_left Ws,Nat.zero_mul,Nat.zero_add];rfl
 | r::t,hf,j+1,hj,i,hi=>by
  have hl:r.enc.length=35:=qj (hf r Wz).1
  show (r.enc++vW t)[(j+1)*35+i]? = _
  rw [List.getElem?_append_right Ws,show (j+1)*35+i-r.enc.length=j*35+i by omega]
  exact krowsL_at t (fun x hx=>hf x (List.mem_cons_of_mem _ hx)) j (by simpa using hj) i hi
theorem xP.cells {w:World}{a:Option Addr}{c:Nat}{l:List xW}(h:xP w (.slice a l.length c) l) (hn:0<l.length):∃ g o,a=some ⟨g,o,none⟩∧g<w.heap.size∧∀ (j:Nat) (hj:j<l.length),w.rangeAt g (o+j*35) l[j].enc:=by
 rcases h.slc.2 with ⟨-,h0⟩ | ⟨h0,-⟩ | ⟨g,o,cap,h1,h2,-,hr⟩
 ·omega
 ·omega
 ·simp only [Value.slice.injEq] at h1
  refine⟨g,o,h1.1,hr.lt,fun j hj i u hu=>?_⟩
  have hi:i<35:=by have:=(List.getElem?_eq_some_iff.1 hu).1;rw [show l[j].enc.length=35 from qj (h.fine _ (List.getElem_mem _)).1] at this;exact this
  rw [Nat.add_assoc]
  exact hr.cells (j*35+i) u (by rw [krowsL_at l h.fine j hj i hi];exact hu)
theorem findAny_any {w:World}(r:xW) (hr:r.fine) {id:ByteArray}(b:Nat) (h:w.cell? ⟨b,0,none⟩=some (.string id)) :
  CL w 100 #[.agg r.enc.toArray,.pointer (some ⟨b,0,none⟩)] (.bool (decide (r.id=id))):=by
 obtain⟨W0,Ga⟩:∃ W0,Hid (W0=w.alloc (.cells r.enc.toArray 49)):=⟨_,qI rfl⟩
 have Gb:Hid (zb [] w W0):=qI (kA1 Ga.o)
 have HA:Hid (vM W0 w.heap.size r.id r.key):=qI (by rw [Ga.o];exact zd rfl)
 have c0:=HA.o.c0
 have c1:=Gb.o.cell h Wz
 clear h
 by_cases hid:r.id=id
 ·obtain⟨f1,f2⟩:=ky hid
  have HD:Hid (decide (r.id=id)=true):=qI (decide_eq_true hid)
  clear hid
  go_enter func100,ntmps100
  go_upto_region 1 with fail
  rw [← Ga.o]
  go_wp2_with fail
  go_ret
  exact⟨by rw [HD.o];rfl,Gb.o⟩
 ·obtain⟨f1,f2⟩:=ke hid
  have HD:Hid (decide (r.id=id)=false):=qI (decide_eq_false hid)
  clear hid
  go_enter func100,ntmps100
  go_upto_region 1 with fail
  rw [← Ga.o]
  go_wp2_with fail
  go_ret
  exact⟨by rw [HD.o];rfl,Gb.o⟩
theorem aggRow (w:World):(isAgg (Tryz.shIndexRow_ren.t 23)).run Tryz.prog w = .ok true w:=isAgg49 w
theorem sizeRow (w:World):(Go.sizeOf (Tryz.shIndexRow_ren.t 23)).run Tryz.prog w = .ok 35 w:=sizeOf49 w
theorem enterFind:∀ (args:Array Value) (w:World),(callFunc 100 args).run Tryz.prog w = .ok (.enter 100 args) w:=enters_of func100 Wr rfl
instance:Inhabited {r:xW // r.fine}:=⟨⟨⟨⟨#[]⟩,yD⟩,⟨Wk,by constructor <;> decide⟩⟩⟩
theorem idx_find {α:Type} [Inhabited α] (p:α→Bool) (d:α):∀ (l:List α) (i:Nat),(Lib.idxByFrom (fun _ y=>p y) d l i = -1∧l.find? p=none)∨∃ (j:Nat) (hj:j<l.length),Lib.idxByFrom (fun _ y=>p y) d l i=((i+j:Nat):Int)∧l.find? p=some l[j]
 | [],_=>.inl ⟨rfl,rfl⟩
 | y::r,i=>by
  cases h:p y with
  | true=>exact .inr ⟨0,Wz,by simp [Lib.idxByFrom,h],by simp [h]⟩
  | false=>
   rcases idx_find p d r (i+1) with ⟨e,ha⟩ | ⟨k,hk,e,ha⟩
   ·exact .inl ⟨by simp [Lib.idxByFrom,h,e],by simp [h,ha]⟩
   ·refine .inr ⟨k+1,by simpa using hk,?_,by simp [h,ha]⟩
    simp only [Lib.idxByFrom,h]
    rw [show (if false=true then (i:Int) else Lib.idxByFrom (fun _ y=>p y) d r (i+1))=Lib.idxByFrom (fun _ y=>p y) d r (i+1) from rfl,e]
    congr 1;omega
def qG (l:List xW) (id:ByteArray):Option xW:=l.find? (fun r=>decide (r.id=id))
theorem nilRow_any (w:World) (a:Option Addr) (c b:Nat):CL w 99 #[.slice a 0 c,.func (.func 100) #[] #[.pointer (some ⟨b,0,none⟩)]] (.int .i64 (-1)):=by
 go_enter func99,ntmps99
 go_wp2_with fail
 go_loopw [5,8] (fun _ i wr=>i = .int .i64 0∧zb [] w wr) (fun _ _ _=>0)
 case atStart=>exact⟨rfl,Wd⟩
 case round=>
  obtain⟨rfl,hk⟩:=hrel
  have HK:=qI hk
  clear hk
  go_wp2_with fail
  go_ret
  exact⟨rfl,HK.o⟩
theorem indexRows_any {w:World}{a:Option Addr}{c:Nat}{l:List xW}(h:xP w (.slice a l.length c) l) {id:ByteArray}(b:Nat) (hb:w.cell? ⟨b,0,none⟩=some (.string id)) :
  Calls Tryz.prog 99 #[.slice a l.length c,.func (.func 100) #[] #[.pointer (some ⟨b,0,none⟩)]] w fun e w'=>((e = .returned (.int .i64 (-1))∧qG l id=none)∨∃ (j:Nat) (hj:j<l.length),e = .returned (.int .i64 j)∧qG l id=some l[j])∧zb [] w w':=by
 rcases Nat.eq_zero_or_pos l.length with h0 | h0
 ·have hl0:=List.eq_nil_of_length_eq_zero h0
  subst hl0
  exact (nilRow_any w a c b).mono (fun e w' h=>⟨.inl ⟨h.1,rfl⟩,h.2⟩)
 ·obtain⟨g,o,rfl,hg,hcell⟩:=h.cells h0
  obtain⟨zs,HZ⟩:∃ zs:List {r:xW // r.fine},Hid (zs=l.attach.map fun x=>⟨x.1,h.fine x.1 x.2⟩):=⟨_,qI rfl⟩
  have hlen:zs.length=l.length:=by rw [HZ.o];simp
  have hmap:zs.map (fun x=>x.1)=l:=by rw [HZ.o,List.map_map];exact List.attach_map_subtype_val l
  have hget:∀ (j:Nat) (hj:j<l.length),(zs[j]!).1=l[j]:=fun j hj=>by
   rw [getElem!_pos zs j Ws]
   simp [HZ.o]
  have hfew:=h.few
  refine (AnyQ.slices_IndexFunc Tryz.shIndexRow 35 aggRow sizeRow (fun x:{r:xW // r.fine}=>x.1.enc) (fun x=>qj x.2.1) (fun x=>decide (x.1.id=id)) 100 #[.pointer (some ⟨b,0,none⟩)] enterFind g o l.length c zs w (fun W x hbl=>?_) Ws Ws hg (fun j hj i u hu=>?_)).mono ?_
  ·refine (findAny_any x.1 x.2 b ((zb.of_below hbl).cell hb Wz)).mono ?_
   rintro e w' ⟨rfl,hk⟩
   exact⟨rfl,((zb.of_below hbl).then hk).below (Nat.le_refl _) Wz⟩
  ·rw [hget j Ws] at hu
   exact hcell j Ws i u hu
  ·rintro e w' ⟨rfl,hbl⟩
   refine⟨?_,zb.of_below hbl⟩
   rw [List.take_of_length_le Ws]
   have hfm:qG l id=(zs.find? (fun x=>decide (x.1.id=id))).map (fun x=>x.1):=by
    unfold qG
    conv=>lhs;rw [← hmap]
    rw [List.find?_map]
    rfl
   rcases idx_find (fun x:{r:xW // r.fine}=>decide (x.1.id=id)) default zs 0 with ⟨e1,e2⟩ | ⟨j,hj,e1,e2⟩
   ·refine .inl ⟨?_,by rw [hfm,e2];rfl⟩
    unfold Lib.idxBy;rw [e1]
   ·refine .inr ⟨j,Ws,?_,?_⟩
    ·unfold Lib.idxBy;rw [e1,Nat.zero_add]
    ·rw [hfm,e2,← hget j Ws,getElem!_pos zs j hj];rfl
def foundV (o:Option xW):Value:=match o with
 | none=>.tuple #[.agg (ye yD),.bool false]
 | some r=>.tuple #[.agg (ye r.key),.bool true]
theorem find_any {w:World}{a:Option Addr}{c:Nat}{l:List xW}(h:xP w (.slice a l.length c) l) (id:ByteArray) :
  CL w 61 #[.slice a l.length c,.string id] (foundV (qG l id)):=by
 obtain⟨W0,Ga⟩:∃ W0,Hid (W0=(w.alloc (.cells #[.string id] 9)).alloc (.cells (ye yD) 47)):=⟨_,qI rfl⟩
 have Gb:Hid (zb [] w W0):=qI (kA2 Ga.o)
 have HC:Hid (W0.cell? ⟨w.heap.size,0,none⟩=some (.string id)):=qI (by rw [Ga.o];exact ((zb.refl [] _).alloc _).cell (za (zd rfl) rfl) Wz)
 have Gi:Hid (yw W0 (w.heap.size+1) yD):=qI (by rw [Ga.o];exact zd Wz)
 have HH:=qI (h.kept0 Gb.o)
 have CI:=qI (indexRows_any HH.o _ HC.o)
 have Gl:Hid (yD.root.length=32):=qI Wk
 clear h
 go_enter func61,ntmps61
 go_upto_region 1 with fail
 refine yq Ga.o ?_
 go_upto_region 2 with (go_at_call 99;refine CI.o.mono ?_;rintro e w1 ⟨hor,hk1⟩;have Gn:=qI hor;have Gj:=qI hk1;clear hor hk1;rcases Gn.o with ⟨rfl,hf⟩ | ⟨j,hj,rfl,hf⟩)
 ·have HF:=qI hf
  have Ge:=qI (Gi.o.kept0 Gj.o)
  clear hf Gn CI
  go_wp2_with (refine xB Wk (.tmp 4) (.tmp 12) Wk (g:=w.heap.size+1) (k:=yD) (k0:=yD) Ge.o Gl.o Gl.o Wk Wk ?_;intro w4 h4 hk4;have Gp:=qI h4;have Gq:=qI hk4;clear h4 hk4;simp only [Act.put])
  have hres:=Gp.o.var Gl.o
  refine bodyPost_ret (v:=.tuple #[.agg (ye yD),.bool false]) (by simp only [results,results61];simp [hres,Sem.run_bind,asAddr,Act.put]) rfl ?_
  exact⟨by rw [HF.o];rfl,(Gb.o.then Gj.o).trans Gq.o (by intro i hi;simp at hi;subst hi;exact .inr Wz)⟩
 ·have HF:=qI hf
  have Ge:=qI (Gi.o.kept0 Gj.o)
  obtain⟨g,o,rfl,-,hcell⟩:=HH.o.cells Ws
  have Gm:Hid (l[j].key.root.length=32):=qI (HH.o.fine _ (List.getElem_mem _)).1
  have H1:Hid (w1.rangeAt g (o+j*35+1) (kz l[j].key)):=qI (fun i v hv=>by
   have h2:=Gj.o.cell (hcell j hj (i+1) v hv) Wz
   rw [show o+j*35+(i+1)=o+j*35+1+i by omega] at h2
   exact h2)
  have hjI:(j:Int)<l.length:=Ws
  have hmI:(l.length:Int)≤1000000:=by have:=HH.o.few;omega
  clear hf Gn CI hcell
  generalize l[j]=r at HF Gm H1
  have Gy:=qI HF.o
  clear HH HF hj
  generalize l.length=m at hjI hmI ⊢
  go_wp2_with first
   | (refine jI Wk (.tmp 16) Wk (g:=g) (of:=o+j*35+1) H1.o Gm.o Wk ?_)
   | (refine xB Wk (.tmp 4) (.tmp 17) Wk (g:=w.heap.size+1) (k:=r.key) (k0:=yD) Ge.o Gl.o Gm.o Wk Wk ?_;intro w4 h4 hk4;have Gp:=qI h4;have Gq:=qI hk4;clear h4 hk4;simp only [Act.put])
  have hres:=Gp.o.var Gm.o
  refine bodyPost_ret (v:=.tuple #[.agg (ye r.key),.bool true]) (by simp only [results,results61];simp [hres,Sem.run_bind,asAddr,Act.put]) rfl ?_
  exact⟨by rw [Gy.o];rfl,(Gb.o.then Gj.o).trans Gq.o (by intro i hi;simp at hi;subst hi;exact .inr Wz)⟩
structure yr where
 id:ByteArray
 sig:ByteArray
deriving Inhabited
def yr.enc (r:yr):List Value:=[.string r.id,.string r.sig]
def ZF (l:List yr):List Value:=l.flatMap yr.enc
def yX (r:yr):Bool:=qo r.id&&((yJ r.sig).isSome&&decide (r.sig.size≤1048576))
def yr.small (r:yr):Prop:=r.id.size≤140737488355328∧r.sig.size≤140737488355328
def q8 (w:World) (v:Value) (l:List yr):Prop:=Slc w 2 v l.length (ZF l)
theorem q8.kept0 {w w':World}{v:Value}{l:List yr}(h:q8 w v l) (k:zb [] w w'):q8 w' v l:=Slc.kept0 h k
theorem rowsL_at:∀ (l:List yr) (j:Nat) (hj:j<l.length) (i:Nat) (_:i<2),(ZF l)[j*2+i]? = (l[j].enc)[i]?
 | r::t,0,_,i,hi=>by
  show (r.enc++ZF t)[0*2+i]? = _
  rw [List.getElem?_append_left (by simp [yr.enc];omega),Nat.zero_mul,Nat.zero_add];rfl
 | r::t,j+1,hj,i,hi=>by
  show (r.enc++ZF t)[(j+1)*2+i]? = _
  rw [List.getElem?_append_right (by simp [yr.enc];omega),show (j+1)*2+i-r.enc.length=j*2+i by simp [yr.enc];omega]
  exact rowsL_at t j (by simpa using hj) i hi
theorem q8.cells {w:World}{a:Option Addr}{c:Nat}{l:List yr}(h:q8 w (.slice a l.length c) l) (hn:0<l.length):∃ g o,a=some ⟨g,o,none⟩∧g<w.heap.size∧l.length≤c∧∀ (j:Nat) (hj:j<l.length) (i:Nat) (u:Value),(l[j].enc)[i]? = some u→w.cell? ⟨g,o+j*2+i,none⟩=some u:=by
 rcases h.2 with ⟨-,h0⟩ | ⟨h0,-⟩ | ⟨g,o,cap,h1,h2,-,hr⟩
 ·omega
 ·omega
 ·simp only [Value.slice.injEq] at h1
  refine⟨g,o,h1.1,hr.lt,Ws,fun j hj i u hu=>?_⟩
  have hi:i<2:=(List.getElem?_eq_some_iff.1 hu).1
  rw [Nat.add_assoc]
  exact hr.cells (j*2+i) u (by rw [rowsL_at l j hj i hi];exact hu)
theorem isRow_any (r:yr) (hz:r.small) (w:World):CL w 59 #[.agg r.enc.toArray] (.bool (yX r)):=by
 obtain⟨W0,Ga⟩:∃ W0,Hid (W0=w.alloc (.cells #[.string r.id,.string r.sig] 40)):=⟨_,qI rfl⟩
 have Gb:Hid (zb [] w W0):=qI (kA1 Ga.o)
 have HB:Hid (W0.heap[w.heap.size]? = some (.cells #[.string r.id,.string r.sig] 40 (0,0))):=qI (by rw [Ga.o];exact zd rfl)
 have c0:=za (o:=0) HB.o rfl
 have CU:=ZP r.id hz.1 W0
 have CV:Hid (∀ w2,zb [] W0 w2→Calls Tryz.prog 96 #[.string r.sig] w2 _):=qI (fun w2 _=>ZP r.sig hz.2 w2)
 have HI:Hid (yX r=(qo r.id&&((yJ r.sig).isSome&&decide (r.sig.size≤1048576)))):=qI rfl
 have HD:Hid (qo r.id=match yJ r.id with | none=>false | some l=>decide (l.length=32)):=qI rfl
 clear hz
 rcases hu:yJ r.id with _ | l
 ·rw [hu] at CU HD
  rw [HD.o] at HI
  have CV2:Hid (∀ w2,zb [] W0 w2→Calls Tryz.prog 96 #[.string r.sig] w2 fun e w'=>(∃ x z,e = .returned (.tuple #[x,.int .i64 z]))∧zb [] w2 w'):=qI (fun w2 hk=>(CV.o w2 hk).mono (fun e w' h=>⟨by
   rcases hv:yJ r.sig with _ | m
   ·rw [hv] at h;exact⟨_,_,h.1⟩
   ·rw [hv] at h;obtain⟨⟨a,c,h1,-,-⟩,-⟩:=h;exact⟨_,_,h1⟩,h.2⟩))
  have CU:=qI CU
  clear hu CV HD
  go_enter func59,ntmps59
  go_upto_region 1 with fail
  refine yq Ga.o ?_
  go_upto_region 2 with (go_at_call 96;refine CU.o.mono ?_;rintro e w1 ⟨rfl,hk⟩;have y1:=hk.cell (za (o:=1) HB.o rfl) Wz;have HK:=qI hk;clear hk)
  go_wp2_with (go_at_call 96;refine (CV2.o _ HK.o).mono ?_;rintro e w2 ⟨⟨x2,z2,rfl⟩,hk⟩;have Gc:=qI hk;clear hk)
  go_ret
  exact⟨by rw [HI.o];rfl,Gb.o.then (HK.o.then Gc.o)⟩
 ·rw [hu] at CU HD
  have HD:Hid (qo r.id=decide (l.length=32)):=qI HD.o
  rw [HD.o] at HI
  have CU:=qI CU
  rcases hv:yJ r.sig with _ | m
  ·rw [hv] at CV HI
   have CV:Hid (CK W0 96 #[.string r.sig] (.tuple #[.slice none 0 0,.int .i64 10])):=CV
   clear hu hv HD
   go_enter func59,ntmps59
   go_upto_region 1 with fail
   refine yq Ga.o ?_
   go_upto_region 2 with (go_at_call 96;refine CU.o.mono ?_;rintro e w1 ⟨⟨a1,c1,rfl,-,-⟩,hk⟩;have y1:=hk.cell (za (o:=1) HB.o rfl) Wz;have HK:=qI hk;clear hk)
   go_wp2_with (go_at_call 96;refine (CV.o _ HK.o).mh ?_;rintro e w2 rfl Gc)
   go_ret
   exact⟨by rw [HI.o];simp,Gb.o.then (HK.o.then Gc.o)⟩
  ·rw [hv] at CV HI
   have CV:Hid (∀ w2,zb [] W0 w2→Calls Tryz.prog 96 #[.string r.sig] w2 fun e w'=>(∃ a c,e = .returned (.tuple #[.slice a m.length c,.int .i64 0]))∧zb [] w2 w'):=qI (fun w2 hk=>(CV.o w2 hk).mono (fun e w' h=>⟨by obtain⟨⟨a,c,h1,-,-⟩,-⟩:=h;exact⟨a,c,h1⟩,h.2⟩))
   clear hu hv HD
   by_cases hl:l.length=32
   ·have f1:=(xH (a:=(l.length:Int)) (b:=32) Ws).1
    rw [decide_eq_true hl] at HI
    clear hl
    go_enter func59,ntmps59
    go_upto_region 1 with fail
    refine yq Ga.o ?_
    go_upto_region 2 with (go_at_call 96;refine CU.o.mono ?_;rintro e w1 ⟨⟨a1,c1,rfl,-,-⟩,hk⟩;have y1:=hk.cell (za (o:=1) HB.o rfl) Wz;have HK:=qI hk;clear hk)
    go_wp2_with (go_at_call 96;refine (CV.o _ HK.o).mono ?_;rintro e w2 ⟨⟨a2,c2,rfl⟩,hk⟩;have y2:=hk.cell y1 Wz;have Gc:=qI hk;clear hk)
    go_ret
    exact⟨by rw [HI.o];simp;omega,Gb.o.then (HK.o.then Gc.o)⟩
   ·have f1:=(yF (a:=(l.length:Int)) (b:=32) Ws).1
    rw [decide_eq_false hl] at HI
    clear hl
    go_enter func59,ntmps59
    go_upto_region 1 with fail
    refine yq Ga.o ?_
    go_upto_region 2 with (go_at_call 96;refine CU.o.mono ?_;rintro e w1 ⟨⟨a1,c1,rfl,-,-⟩,hk⟩;have y1:=hk.cell (za (o:=1) HB.o rfl) Wz;have HK:=qI hk;clear hk)
    go_wp2_with (go_at_call 96;refine (CV.o _ HK.o).mono ?_;rintro e w2 ⟨⟨a2,c2,rfl⟩,hk⟩;have Gc:=qI hk;clear hk)
    go_ret
    exact⟨by rw [HI.o];rfl,Gb.o.then (HK.o.then Gc.o)⟩
theorem noRow_any (r:yr) (hz:r.small) (w:World):CL w 58 #[.agg r.enc.toArray] (.bool (!yX r)):=by
 obtain⟨W0,Ga⟩:∃ W0,Hid (W0=w.alloc (.cells #[.string r.id,.string r.sig] 40)):=⟨_,qI rfl⟩
 have Gb:Hid (zb [] w W0):=qI (kA1 Ga.o)
 have HB:Hid (W0.heap[w.heap.size]? = some (.cells #[.string r.id,.string r.sig] 40 (0,0))):=qI (by rw [Ga.o];exact zd rfl)
 have c0:=za (o:=0) HB.o rfl
 have c1:=za (o:=1) HB.o rfl
 have CR:Hid (CL W0 59 #[.agg #[.string r.id,.string r.sig]] (.bool (yX r))):=qI (isRow_any r hz W0)
 clear hz
 generalize yX r=b at CR
 go_enter func58,ntmps58
 go_upto_region 1 with fail
 refine yq Ga.o ?_
 go_wp2_with (go_at_call 59;refine CR.o.mh ?_;rintro e w1 rfl HK)
 go_ret
 exact⟨rfl,Gb.o.then HK.o⟩
theorem aggSig (w:World):(isAgg (Tryz.shIndexSig_ren.t 23)).run Tryz.prog w = .ok true w:=isAgg40 w
theorem sizeSig (w:World):(Go.sizeOf (Tryz.shIndexSig_ren.t 23)).run Tryz.prog w = .ok 2 w:=sizeOf40 w
theorem enterNoRow:∀ (args:Array Value) (w:World),(callFunc 58 args).run Tryz.prog w = .ok (.enter 58 args) w:=enters_of func58 Wr rfl
instance:Inhabited {r:yr // r.small}:=⟨⟨⟨⟨#[]⟩,⟨#[]⟩⟩,⟨Nat.zero_le _,Nat.zero_le _⟩⟩⟩
theorem nilSig_any (w:World) (a:Option Addr) (c:Nat):CL w 98 #[.slice a 0 c,.func (.func 58) #[] #[]] (.int .i64 (-1)):=by
 go_enter func98,ntmps98
 go_wp2_with fail
 go_loopw [5,8] (fun _ i wr=>i = .int .i64 0∧zb [] w wr) (fun _ _ _=>0)
 case atStart=>exact⟨rfl,Wd⟩
 case round=>
  obtain⟨rfl,hk⟩:=hrel
  have HK:=qI hk
  clear hk
  go_wp2_with fail
  go_ret
  exact⟨rfl,HK.o⟩
theorem indexSig_any {w:World}{a:Option Addr}{c:Nat}{l:List yr}(h:q8 w (.slice a l.length c) l) (hz:∀ r,r∈l→r.small) (hl:l.length≤1000000) :
  Calls Tryz.prog 98 #[.slice a l.length c,.func (.func 58) #[] #[]] w fun e w'=>(∃ z:Int,decide (0≤z) = !(l.all yX)∧e = .returned (.int .i64 z))∧zb [] w w':=by
 rcases Nat.eq_zero_or_pos l.length with h0 | h0
 ·have hl0:=List.eq_nil_of_length_eq_zero h0
  subst hl0
  exact (nilSig_any w a c).mono (fun e w' h=>⟨⟨-1,Wz,h.1⟩,h.2⟩)
 ·obtain⟨g,o,rfl,hg,hc,hcell⟩:=h.cells h0
  obtain⟨zs,HZ⟩:∃ zs:List {r:yr // r.small},Hid (zs=l.attach.map fun x=>⟨x.1,hz x.1 x.2⟩):=⟨_,qI rfl⟩
  have hlen:zs.length=l.length:=by rw [HZ.o];simp
  have hget:∀ (j:Nat) (hj:j<l.length),(zs[j]!).1=l[j]:=fun j hj=>by
   rw [getElem!_pos zs j Ws]
   simp [HZ.o]
  have hall:zs.any (fun x=>!yX x.1) = !(l.all yX):=by
   rw [HZ.o,List.any_map,List.not_all_eq_any_not]
   conv=>rhs;rw [← List.attach_map_subtype_val l,List.any_map]
   rfl
  refine (AnyQ.slices_IndexFunc Tryz.shIndexSig 2 aggSig sizeSig (fun x:{r:yr // r.small}=>x.1.enc) (fun _=>rfl) (fun x=>!yX x.1) 58 #[] enterNoRow g o l.length c zs w (fun W x hbl=>?_) Ws Ws hg (fun j hj i u hu=>?_)).mono ?_
  ·refine (noRow_any x.1 x.2 W).mono ?_
   rintro e w' ⟨rfl,hk⟩
   exact⟨rfl,((zb.of_below hbl).then hk).below (Nat.le_refl _) Wz⟩
  ·rw [hget j Ws] at hu
   exact hcell j Ws i u hu
  ·rintro e w' ⟨rfl,hbl⟩
   refine⟨⟨_,?_,rfl⟩,zb.of_below hbl⟩
   rw [List.take_of_length_le Ws,Lib.idxBy_nonneg_iff,hall]
theorem noRows_any {w:World}{a:Option Addr}{c:Nat}{l:List yr}(h:q8 w (.slice a l.length c) l) (hz:∀ r,r∈l→r.small) (hl:l.length≤1000000) :
  CL w 57 #[.slice a l.length c,.func (.func 58) #[] #[]] (.bool (!(l.all yX))):=by
 have CI:=qI (indexSig_any h hz hl)
 clear h hz hl
 generalize l.all yX=b at CI
 generalize l.length=n at CI
 go_enter func57,ntmps57
 go_wp2_with (go_at_call 98;refine CI.o.mono ?_;rintro e w1 ⟨⟨z,hz,rfl⟩,hk⟩;have HK:=qI hk;have HZ:=qI hz;clear hk hz)
 go_ret
 exact⟨by rw [← HZ.o];rfl,HK.o⟩
def kindE:(n:Nat)→V n→Int
 | 0,_=>0
 | _+1,(v:VS (V _))=>v.kind
theorem Rep.kindE:∀ {n:Nat}{S:Nat→Prop}{w:World}{k m:Int}{s:ByteArray}{a b:Value}{x:V n},Rep n S w [.int .i64 k,.int .i64 m,.string s,a,b] x→k=Go.Proofs.YtibnfbglanpoiaaGreatDoor.kindE n x
 | 0,_,_,_,_,_,_,_,x,_=>nomatch x
 | n+1,S,w,k,m,s,a,b,x,h=>by
  obtain⟨vl,vm,lcs,mcs,ho⟩:=Rep.open_ h
  have e:=ho.cells
  simp only [List.cons.injEq,Value.int.injEq,true_and] at e
  exact e.1
def yj (n:Nat) (v:V n) (l:List yr):Bool:=decide (kindE n v=6)&&(decide (yQ n v=0)&&(decide (zE n v<12)&&(decide (l.length≤16)&&l.all yX)))
def xx (n:Nat) (v:V n) (l:List yr):List UInt8:=if yj n v l=true then (qB n v).1 else []
structure Env (n:Nat) (S:Nat→Prop) (w:World) (cs:List Value) (v:V n) (a:Option Addr) (c:Nat) (l:List yr):Prop where
 rep:Rep n S w cs v
 small:yA n v
 deep:n≤100
 rows:q8 w (.slice a l.length c) l
 texts:∀ r,r∈l→r.small
 few:l.length≤1000000
theorem Env.kept0 {n:Nat}{S:Nat→Prop}{w w':World}{cs:List Value}{v:V n}{a:Option Addr}{c:Nat}{l:List yr}(h:Env n S w cs v a c l) (k:zb [] w w'):Env n S w' cs v a c l:=
 ⟨h.rep.kept0 k,h.small,h.deep,h.rows.kept0 k,h.texts,h.few⟩
def vG (cs:List Value) (a:Option Addr) (m c:Nat):List Value:=cs++[.slice a m c]
theorem valDepth_any {n:Nat}{v:V n}{S:Nat→Prop}{w:World}{cs:List Value}(h:Rep n S w cs v) (hs:yA n v) (hn:n≤100) (ht:qC w) :
  CL w 56 #[.agg cs.toArray] (.int .i64 (zE n v)):=by
 obtain⟨kd,nm,st,p1,i1,d1,p2,i2,d2,rfl⟩:=h.conv
 obtain⟨W0,Ga⟩:∃ W0,Hid (W0=w.alloc (.cells #[.int .i64 kd,.int .i64 nm,.string st,.slice p1 i1 d1,.slice p2 i2 d2] 25)):=⟨_,qI rfl⟩
 have Gb:Hid (zb [] w W0):=qI (kA1 Ga.o)
 have Gd:Hid (W0.heap[w.heap.size]? = some (.cells #[.int .i64 kd,.int .i64 nm,.string st,.slice p1 i1 d1,.slice p2 i2 d2] 25 (0,0))):=qI (by rw [Ga.o];exact zd rfl)
 have CL:=qI (look_any (h.kept0 Gb.o) hs hn (ht.kept0 Gb.o))
 clear h hs ht
 have c0:=za (o:=0) Gd.o rfl
 have c1:=za (o:=1) Gd.o rfl
 have c2:=za (o:=2) Gd.o rfl
 have c3:=za (o:=3) Gd.o rfl
 have c4:=za (o:=4) Gd.o rfl
 generalize zE n v=D at CL
 generalize zw n v=C at CL
 generalize zr n v=R at CL
 go_enter func56,ntmps56
 go_upto_region 1 with fail
 refine yq Ga.o ?_
 go_wp2_with (go_at_call 97;refine CL.o.mono ?_;rintro e w1 ⟨⟨b,rfl,hb⟩,hk⟩;have HK:=qI hk;have y0:=za (o:=0) (v:=.int .i64 D) hb rfl;clear hk hb)
 go_ret
 exact⟨rfl,Gb.o.then HK.o⟩
theorem Qy:Tryz.prog.cellsOf 3=1:=Wr
theorem bG:Tryz.prog.cellsOf 9=1:=Wr
theorem cellsVals:Tryz.prog.cellsOf 22=1:=Wr
theorem cellsPairs:Tryz.prog.cellsOf 23=1:=Wr
theorem J9:Tryz.prog.cellsOf 25=5:=Wr
theorem cellsPair:Tryz.prog.cellsOf 132=6:=Wr
section
variable {H : Type} {enc : TypeId × Value → H} {w : World} {held : Bool}
theorem Zj {P:Program}{e:TypeId}:∀ {l:List (DataW H)}{d:DataW H}{k:Nat},d∈l→k∈d.weights P e→k∈DataW.weightsAll P e l
 | [],_,_,h,_=>by cases h
 | a::l,d,k,h,hk=>by
  rw [DataW.weightsAll,List.mem_append]
  rcases List.mem_cons.1 h with rfl | h
  ·exact .inl hk
  ·exact .inr (Zj h hk)
theorem xL {P:Program}{t:TypeId}{fs:Array Field}{xs:List (DataW H×List MemPlace)}(h:P.underlying t=some (.struct fs)) {j:Nat}{tt:TypeId}{y:DataW H×List MemPlace}{k:Nat}(ht:(fs.toList.map (·.type))[j]? = some tt) (hy:xs[j]? = some y) (hk:k∈y.1.weights P tt):k∈(DataW.agg (xs.map (·.1)):DataW H).weights P t:=by
 rw [DataW.weights,h]
 exact DataW.weights_mem_each (j:=j) ht (by rw [List.getElem?_map,hy];rfl) k hk
theorem be {P:Program}{t e size:Nat}(ht:P.underlying t=some (.slice e)) (hc:P.cellsOf e=size) (hpos:0<size) {fuel:Nat}{v:Value}{x:DataW H×List MemPlace}{B:Nat}
  (h:DataW.trod enc P w 0 (fun _=>true) held fuel t [v]=some x) (hw:∀ k,k∈x.1.weights P t→k≤B) (hb:0<P.bytesOf e) :
  ∃ n xs,Slc w size v n xs∧n≤B∧(n=0∨∃ m,fuel=m+1∧∀ i,i<n→∃ y,DataW.trod enc P w 0 (fun _=>true) held m e ((xs.drop (i*size)).take size)=some y∧∀ k,k∈y.1.weights P e→k≤B):=by
 rcases DataW.trod_slice ht h with ⟨hcs,_⟩ | ⟨a,len,cap,elems,rest,m,hfuel,hcs,hxe,_,hl,hm,hel,hx,_⟩
 ·obtain rfl:v = .slice none 0 0:=by simpa using hcs
  exact⟨0,[],yV _ _,Nat.zero_le _,.inl rfl⟩
 ·obtain rfl:v = .slice (some a) len cap:=by simpa using hcs
  rw [hc] at hx
  by_cases h0:len=0
  ·subst h0
   exact⟨0,[],⟨Wz,.inr (.inl ⟨rfl,a,cap,rfl,hm⟩)⟩,Nat.zero_le _,.inl rfl⟩
  ·rw [hxe] at hw
   have hwe:(DataW.slice (elems.map (·.1)) (rest.map (·.1)):DataW H).weights P t=((elems.map (·.1)).length+(rest.map (·.1)).length)*P.bytesOf e::(DataW.weightsAll P e (elems.map (·.1))++DataW.weightsAll P e (rest.map (·.1))):=by
    rw [DataW.weights,ht]
   simp only at hw
   rw [hwe] at hw
   have hlenB:len≤B:=by
    have h1:=hw _ (List.mem_cons_self ..)
    rw [List.length_map,List.length_map,hel] at h1
    have h2:(len+rest.length)*1≤(len+rest.length)*P.bytesOf e:=Nat.mul_le_mul_left _ hb
    omega
   have hx':∀ i,i<len→∃ cs',w.cells? 0 (a.add (i*size)) size=some cs'∧∃ y,DataW.trod enc P w 0 (fun _=>true) held m e cs'=some y∧∀ k,k∈y.1.weights P e→k≤B:=by
    intro i hi
    have h1:=hx i hi
    rw [List.getElem?_eq_getElem Ws] at h1
    obtain⟨cs',h2,h3⟩:=Option.bind_eq_some_iff.1 h1
    exact⟨cs',h2,_,h3,fun k hk=>hw k (List.mem_cons_of_mem _ (List.mem_append_left _ (Zj (List.mem_map_of_mem (List.getElem_mem Ws)) hk)))⟩
   have hcell:∀ j,j<len*size→∃ u,w.cell? (a.add j)=some u:=by
    intro j hj
    have hi:j/size<len:=Nat.div_lt_of_lt_mul (by rw [Nat.mul_comm];exact hj)
    obtain⟨cs',h1,_⟩:=hx' _ hi
    obtain⟨_,h2,h3⟩:=World.cells?_some h1
    have hr:=Nat.mod_lt j hpos
    have h4:=h3 _ hr
    rw [Deep.add_add,show j/size*size+j%size=j by rw [Nat.mul_comm];exact Nat.div_add_mod j size] at h4
    rw [h4]
    exact⟨cs'[j%size],by simp [h2,hr]⟩
   have hpos2:0<len*size:=Nat.mul_pos Ws hpos
   obtain⟨u0,hu0⟩:=hcell 0 hpos2
   obtain⟨g,o,spot⟩:=a
   have hspot:spot=none:=by simpa [Addr.add] using World.cell?_spot hu0
   subst hspot
   have hlt:g<w.heap.size:=by
    rcases Nat.lt_or_ge g w.heap.size with h | h
    ·exact h
    ·exfalso
     simp [World.cell?,Addr.add,Array.getElem?_eq_none h] at hu0
   refine⟨len,(List.range (len*size)).map fun j=>(w.cell? ⟨g,o+j,none⟩).getD (.bool false),⟨Wz,.inr (.inr ⟨g,o,cap,rfl,hl,hm,⟨?_,hlt⟩⟩)⟩,hlenB,.inr ⟨m,hfuel,?_⟩⟩
   ·intro j u hu
    rw [List.getElem?_map] at hu
    by_cases hj:j<len*size
    ·obtain⟨u',hu'⟩:=hcell j hj
     rw [bw] at hu'
     simp [hj,hu'] at hu
     rw [hu',hu]
    ·simp [hj] at hu
   ·intro i hi
    obtain⟨cs',h1,h2⟩:=hx' i Ws
    obtain⟨_,h3,h4⟩:=World.cells?_some h1
    have hle:i*size+size≤len*size:=by
     have:=Nat.mul_le_mul_right size (show i+1≤len by omega)
     rw [Nat.add_mul,Nat.one_mul] at this
     exact this
    have e1:(((List.range (len*size)).map fun j=>(w.cell? ⟨g,o+j,none⟩).getD (.bool false)).drop (i*size)).take size=cs':=by
     apply List.ext_getElem?
     intro r
     by_cases hr:r<size
     ·have h5:=h4 r hr
      rw [Deep.add_add,bw] at h5
      rw [List.getElem?_take,if_pos hr,List.getElem?_drop,List.getElem?_map,List.getElem?_range Ws]
      simp only [Option.map_some]
      rw [h5]
      simp [h3,hr]
     ·rw [List.getElem?_eq_none (by rw [List.length_take];omega),List.getElem?_eq_none Ws]
    rw [e1]
    exact h2
def ZT:Value→UInt8
 | .int _ k=>UInt8.ofNat k.toNat
 | _=>0
theorem byteOfV_wf {k:Int}(h:(Lit.int .u8 k).wf=true):bv (ZT (.int .u8 k)) = .int .u8 k:=by
 have h1:=bounds_u8 h
 unfold bv ZT
 congr 1
 simp only [UInt8.toNat_ofNat']
 omega
theorem one_cellV {xs:List Value}{i:Nat}(hi:i<xs.length):(xs.drop (i*1)).take 1=[xs[i]]:=by
 rw [Nat.mul_one,List.drop_eq_getElem_cons hi]
 rfl
theorem JU {α:Type}{l:List α}(h:l.length=5):∃ a b c d e,l=[a,b,c,d,e]:=by
 match l,h with
 | [a,b,c,d,e],_=>exact⟨a,b,c,d,e,rfl⟩
theorem list_sixV {α:Type}{l:List α}(h:l.length=6):∃ a b c d e f,l=[a,b,c,d,e,f]:=by
 match l,h with
 | [a,b,c,d,e,f],_=>exact⟨a,b,c,d,e,f,rfl⟩
theorem texts_up {B:Nat}:∀ (n:Nat) (v:V n),qV B n v→qV B (n+1) (up n v)
 | 0,v,_=>nomatch v
 | n+1,(v:VS (V n)),⟨⟨h1,h2,h3⟩,h4,h5⟩=>by
  refine⟨⟨h1,?_,?_⟩,?_,?_⟩
  ·show (v.l.map _).length≤B;rw [List.length_map];exact h2
  ·show (v.m.map _).length≤B;rw [List.length_map];exact h3
  ·intro p hp
   obtain⟨q,hq,rfl⟩:=List.mem_map.1 hp
   exact h4 q hq
  ·intro x hx
   have hx':x∈(VS.map (up n) v).kids:=hx
   rw [VS.kids_map] at hx'
   obtain⟨y,hy,rfl⟩:=List.mem_map.1 hx'
   exact texts_up n y (h5 y hy)
theorem bm.up {n B:Nat}{S:Nat→Prop}{cs:List Value}{v:V n}(h:bm n B S w cs v):bm (n+1) B S w cs (Go.Proofs.YtibnfbglanpoiaaGreatDoor.up n v):=⟨h.1.up,texts_up n v h.2⟩
def qF (size:Nat) (xs:List Value) (n:Nat):List (List Value):=(List.range n).map fun i=>(xs.drop (i*size)).take size
theorem ZC {size:Nat}:∀ (n:Nat) (xs:List Value),xs.length=n*size→(qF size xs n).flatten=xs
 | 0,xs,h=>by
  rw [Nat.zero_mul] at h
  rw [List.eq_nil_of_length_eq_zero h]
  rfl
 | n+1,xs,h=>by
  have h':(xs.drop size).length=n*size:=by rw [List.length_drop,h,Nat.add_mul,Nat.one_mul];omega
  have ih:=ZC n (xs.drop size) h'
  unfold qF at ih ⊢
  rw [List.range_succ_eq_map,List.map_cons,List.flatten_cons,Nat.zero_mul,List.drop_zero,List.map_map]
  have e:((fun i=>(xs.drop (i*size)).take size) ∘ Nat.succ)=fun i=>((xs.drop size).drop (i*size)).take size:=by
   funext i
   simp only [Function.comp,List.drop_drop]
   rw [show Nat.succ i*size=size+i*size by rw [Nat.succ_mul];omega]
  rw [e,ih]
  exact List.take_append_drop size xs
def pairF (c:List Value):ByteArray×List Value:=(match c.head? with | some (.string s)=>s | _=>⟨#[]⟩,c.tail)
theorem trod_value {B:Nat}:∀ (fuel:Nat) {cs:List Value}{x:DataW H×List MemPlace},DataW.trod enc Tryz.prog w 0 (fun _=>true) held fuel 25 cs=some x→(∀ k,k∈x.1.weights Tryz.prog 25→k≤B)→∃ v:V fuel,bm fuel B (fun g=>g<w.heap.size) w cs v:=by
 intro fuel
 induction fuel using Nat.strongRecOn with
 | ind fuel IH=>
  intro cs x h hw
  obtain⟨xs,n,hfu,hxe,hl,hlen,hf⟩:=DataW.trod_struct underlying25 h
  subst hfu
  rw [J9] at hl
  obtain⟨c0,c1,c2,c3,c4,rfl⟩:=JU hl
  obtain⟨y0,y1,y2,y3,y4,rfl⟩:=JU hlen
  have h0:DataW.trod enc Tryz.prog w 0 (fun _=>true) held n 3 (([c0,c1,c2,c3,c4].drop 0).take (Tryz.prog.cellsOf 3))=some y0:=hf 0 _ rfl
  have h1:DataW.trod enc Tryz.prog w 0 (fun _=>true) held n 3 (([c0,c1,c2,c3,c4].drop 1).take (Tryz.prog.cellsOf 3))=some y1:=hf 1 _ rfl
  have h2:DataW.trod enc Tryz.prog w 0 (fun _=>true) held n 9 (([c0,c1,c2,c3,c4].drop 2).take (Tryz.prog.cellsOf 9))=some y2:=hf 2 _ rfl
  have h3:DataW.trod enc Tryz.prog w 0 (fun _=>true) held n 22 (([c0,c1,c2,c3,c4].drop 3).take (Tryz.prog.cellsOf 22))=some y3:=hf 3 _ rfl
  have h4:DataW.trod enc Tryz.prog w 0 (fun _=>true) held n 23 (([c0,c1,c2,c3,c4].drop 4).take (Tryz.prog.cellsOf 23))=some y4:=hf 4 _ rfl
  rw [Qy] at h0 h1
  rw [bG] at h2
  rw [cellsVals] at h3
  rw [cellsPairs] at h4
  have hwf:∀ (j:Nat) (tt:TypeId) (y:DataW H×List MemPlace),([3,3,9,22,23]:List TypeId)[j]? = some tt→[y0,y1,y2,y3,y4][j]? = some y→∀ k,k∈y.1.weights Tryz.prog tt→k≤B:=by
   intro j tt y ht hy k hk
   refine hw k ?_
   rw [hxe]
   exact xL underlying25 ht hy hk
  obtain⟨i,e0,_,w0⟩:=DataW.trod_int underlying3 (x:=y0) h0
  obtain⟨j,e1,_,w1⟩:=DataW.trod_int underlying3 (x:=y1) h1
  obtain⟨s,e2,f2,-⟩:=DataW.trod_string underlying9 (x:=y2) h2
  have w2:s.size≤B:=by
   have h9:=hwf 2 _ y2 rfl rfl s.data.toList.length (by rw [f2];show _∈DataW.weights Tryz.prog 9 (.lit (.string s.data.toList));simp [DataW.weights])
   simpa using h9
  have hL:=be (v:=c3) (x:=y3) underlying22 J9 Wo h3 (hwf 3 _ y3 rfl rfl) (by rw [show Tryz.prog.bytesOf 25=80 by kernel_rfl];decide)
  have hM:=be (v:=c4) (x:=y4) underlying23 cellsPair Wo h4 (hwf 4 _ y4 rfl rfl) (by rw [show Tryz.prog.bytesOf 132=96 by kernel_rfl];decide)
  simp only [List.drop_zero,List.drop_succ_cons,List.take_succ_cons,List.take_zero,List.cons.injEq,and_true] at e0 e1 e2
  subst e0 e1 e2
  obtain⟨nl,xl,sl,ml,hl⟩:=hL
  obtain⟨nm,xm,sm,mm,hm⟩:=hM
  have gl:∃ zl:List (V n),zH (bm n B (fun g=>g<w.heap.size) w) (qF 5 xl nl) zl:=by
   refine zH.pick (R:=fun (c:List Value) (k:Nat)=>∃ z:V n,bm n B (fun g=>g<w.heap.size) w c z) _ (List.range nl) ⟨by simp [qF],?_⟩ (fun _ _ _ r=>r)
   intro q c k hc hk
   have hq:q<nl:=by
    have:=(List.getElem?_eq_some_iff.1 hk).1
    simpa using this
   unfold qF at hc
   rw [List.getElem?_map,List.getElem?_range hq] at hc
   simp only [Option.map_some,Option.some.injEq] at hc
   subst hc
   rcases hl with h0 | ⟨m,hm,hl⟩
   ·omega
   obtain⟨y,hy,hwy⟩:=hl q hq
   obtain⟨z,hz⟩:=IH m Ws hy hwy
   subst hm
   exact⟨_,hz.up⟩
  have gm:∃ zm:List (ByteArray×V n),zH (fun c (z:ByteArray×V n)=>(c = .string z.1::c.tail∧bm n B (fun g=>g<w.heap.size) w c.tail z.2)∧z.1.size≤B) (qF 6 xm nm) zm:=by
   refine zH.pick (R:=fun (c:List Value) (k:Nat)=>∃ z:ByteArray×V n,(c = .string z.1::c.tail∧bm n B (fun g=>g<w.heap.size) w c.tail z.2)∧z.1.size≤B) _ (List.range nm) ⟨by simp [qF],?_⟩ (fun _ _ _ r=>r)
   intro q c k hc hk
   have hq:q<nm:=by
    have:=(List.getElem?_eq_some_iff.1 hk).1
    simpa using this
   unfold qF at hc
   rw [List.getElem?_map,List.getElem?_range hq] at hc
   simp only [Option.map_some,Option.some.injEq] at hc
   subst hc
   rcases hm with h0 | ⟨m,hm',hm⟩
   ·omega
   obtain⟨y,hy,hwy⟩:=hm q hq
   obtain⟨ys,n2,hf2,hye,hl2,hlen2,hg2⟩:=DataW.trod_struct underlying132 hy
   rw [cellsPair] at hl2
   revert hl2 hg2
   generalize (xm.drop (q*6)).take 6=c6
   intro hl2 hg2
   obtain⟨d0,d1,d2,d3,d4,d5,rfl⟩:=list_sixV hl2
   obtain⟨z0,z1,rfl⟩:∃ z0 z1,ys=[z0,z1]:=by
    match ys,hlen2 with
    | [a,b],_=>exact⟨a,b,rfl⟩
   have k0:DataW.trod enc Tryz.prog w 0 (fun _=>true) held n2 9 (([d0,d1,d2,d3,d4,d5].drop 0).take (Tryz.prog.cellsOf 9))=some z0:=hg2 0 _ rfl
   have k1:DataW.trod enc Tryz.prog w 0 (fun _=>true) held n2 25 (([d0,d1,d2,d3,d4,d5].drop 1).take (Tryz.prog.cellsOf 25))=some z1:=hg2 1 _ rfl
   rw [bG] at k0
   rw [J9] at k1
   have hwp:∀ (j:Nat) (tt:TypeId) (y':DataW H×List MemPlace),([9,25]:List TypeId)[j]? = some tt→[z0,z1][j]? = some y'→∀ k,k∈y'.1.weights Tryz.prog tt→k≤B:=by
    intro j tt y' ht hy' k hk
    refine hwy k ?_
    rw [hye]
    exact xL underlying132 ht hy' hk
   obtain⟨s2,q0,f2',-⟩:=DataW.trod_string underlying9 (x:=z0) k0
   simp only [List.drop_zero,List.take_succ_cons,List.take_zero,List.cons.injEq,and_true] at q0
   subst q0
   have q2:s2.size≤B:=by
    have h9:=hwp 0 _ z0 rfl rfl s2.data.toList.length (by rw [f2'];show _∈DataW.weights Tryz.prog 9 (.lit (.string s2.data.toList));simp [DataW.weights])
    simpa using h9
   have k1':DataW.trod enc Tryz.prog w 0 (fun _=>true) held n2 25 [d1,d2,d3,d4,d5]=some z1:=k1
   obtain⟨z,hz⟩:=IH n2 Ws k1' (hwp 1 _ z1 rfl rfl)
   subst hf2
   subst hm'
   exact⟨(s2,Go.Proofs.YtibnfbglanpoiaaGreatDoor.up _ (Go.Proofs.YtibnfbglanpoiaaGreatDoor.up _ z)),⟨rfl,hz.up.up⟩,q2⟩
  obtain⟨zl,al⟩:=gl
  obtain⟨zm,am⟩:=gm
  have el:zl.length=nl:=by rw [← al.1];simp [qF]
  have em:zm.length=nm:=by rw [← am.1];simp [qF]
  have getl:∀ x,x∈zl→qV B n x:=fun x hx=>by
   obtain⟨j,hj,rfl⟩:=List.getElem_of_mem hx
   exact (al.2 j _ _ (List.getElem?_eq_getElem (by rw [al.1];exact hj)) (List.getElem?_eq_getElem hj)).2
  have getm:∀ p,p∈zm→qV B n p.2∧p.1.size≤B:=fun x hx=>by
   obtain⟨j,hj,rfl⟩:=List.getElem_of_mem hx
   have:=am.2 j _ _ (List.getElem?_eq_getElem (by rw [am.1];exact hj)) (List.getElem?_eq_getElem hj)
   exact⟨this.1.2.2,this.2⟩
  have hfix:∀ c,c∈qF 6 xm nm→xg (pairF c)=c:=fun c hc=>by
   obtain⟨j,hj,rfl⟩:=List.getElem_of_mem hc
   have h5:=(am.2 j _ _ (List.getElem?_eq_getElem hj) (List.getElem?_eq_getElem (by rw [← am.1];exact hj))).1.1
   rw [h5]
   rfl
  have hcm:yk ((qF 6 xm nm).map pairF)=xm:=by
   rw [qN,List.map_map]
   have e:(qF 6 xm nm).map (xg ∘ pairF)=qF 6 xm nm:=by
    conv=>rhs;rw [← List.map_id (qF 6 xm nm)]
    exact List.map_congr_left fun c hc=>hfix c hc
   rw [e]
   exact ZC nm xm sm.1
  have hcl:(qF 5 xl nl).flatten=xl:=ZC nl xl sl.1
  refine⟨(⟨i,j,s,zl,zm⟩:VS (V n)),⟨c3,c4,qF 5 xl nl,(qF 6 xm nm).map pairF,{
   cells:=rfl
   slcl:=by rw [el,hcl];exact sl
   alll:=al.mono fun _ _ _ r=>r.1
   slcm:=by rw [em,hcm];exact sm
   allm:=?_
   inl:=fun g hg=>sl.lt hg
   inm:=fun g hg=>sm.lt hg
   wfk:=w0
   wfn:=w1 }⟩,⟨w2,by rw [el];exact ml,by rw [em];exact mm⟩,fun p hp=>(getm p hp).2,fun x hx=>?_⟩
  ·refine⟨by rw [List.length_map];exact am.1,?_⟩
   intro q c z hc hz
   rw [List.getElem?_map,Option.map_eq_some_iff] at hc
   obtain⟨c',hc',rfl⟩:=hc
   have h5:=(am.2 q c' z hc' hz).1
   refine⟨?_,h5.2.1⟩
   rw [h5.1]
   rfl
  ·rcases List.mem_append.1 hx with hx | hx
   ·exact getl x hx
   ·obtain⟨p,hp,rfl⟩:=List.mem_map.1 hx
    exact (getm p hp).1
end
def strOfV:Value→ByteArray
 | .string s=>s
 | _=>⟨#[]⟩
section
variable {H : Type} {enc : TypeId × Value → H} {w : World} {held : Bool}
theorem trod_textsV {fuel:Nat}{v:Value}{x:DataW H×List MemPlace}(h:DataW.trod enc Tryz.prog w 0 (fun _=>true) held fuel 29 [v]=some x) {B:Nat}(hw:∀ k,k∈x.1.weights Tryz.prog 29→k≤B):∃ l:List ByteArray,xJ w v l∧l.length≤B∧∀ s,s∈l→s.size≤B:=by
 obtain⟨n,xs,h1,h2,h3⟩:=be underlying29 bG Wo h hw (by rw [show Tryz.prog.bytesOf 9=16 by kernel_rfl];decide)
 have hlen:xs.length=n:=by simpa using h1.1
 have hx:∀ i (hi:i<xs.length),∃ s:ByteArray,xs[i] = .string s∧s.size≤B:=by
  intro i hi
  rcases h3 with h0 | ⟨m,_,h3⟩
  ·omega
  obtain⟨y,hy,hwy⟩:=h3 i Ws
  rw [one_cellV hi] at hy
  obtain⟨s,hs,fs,-⟩:=DataW.trod_string underlying9 hy
  have hs':xs[i] = .string s:=by simpa using hs
  have h9:=hwy s.data.toList.length (by rw [fs];show _∈DataW.weights Tryz.prog 9 (.lit (.string s.data.toList));simp [DataW.weights])
  exact⟨s,hs',by simpa using h9⟩
 have e:(xs.map strOfV).map Value.string=xs:=by
  apply List.ext_getElem Wz
  intro i hi hi'
  obtain⟨s,hs,-⟩:=hx i hi'
  simp only [List.getElem_map]
  rw [hs]
  rfl
 refine⟨xs.map strOfV,?_,by simpa [hlen] using h2,fun s hs=>?_⟩
 ·unfold xJ
  rw [e,List.length_map,hlen]
  exact h1
 ·obtain⟨u,hu,rfl⟩:=List.mem_map.1 hs
  obtain⟨i,hi,rfl⟩:=List.getElem_of_mem hu
  obtain⟨s,hs2,hb⟩:=hx i hi
  rw [hs2]
  exact hb
theorem jM {α:Type}{l:List α}(h:l.length=2):∃ a b,l=[a,b]:=by
 rcases l with _ | ⟨a,_ | ⟨b,_ | ⟨c,l⟩⟩⟩ <;> simp at h
 exact⟨a,b,rfl⟩
theorem trod_role {fuel:Nat}{cs:List Value}{x:DataW H×List MemPlace}(h:DataW.trod enc Tryz.prog w 0 (fun _=>true) held fuel 31 cs=some x) {B:Nat}(hw:∀ k,k∈x.1.weights Tryz.prog 31→k≤B):∃ (r:qz) (a:Option Addr) (c:Nat),cs=[.slice a r.keys.length c,.int .i64 r.thr]∧xJ w (.slice a r.keys.length c) r.keys∧r.keys.length≤B∧∀ s,s∈r.keys→s.size≤B:=by
 obtain⟨xs,n,hfu,hxe,hl,hlen,hf⟩:=DataW.trod_struct underlying31 h
 rw [show Tryz.prog.cellsOf 31=2 by kernel_rfl] at hl
 obtain⟨c0,c1,rfl⟩:=jM hl
 obtain⟨y0,y1,rfl⟩:=jM hlen
 have h0:DataW.trod enc Tryz.prog w 0 (fun _=>true) held n 29 (([c0,c1].drop 0).take (Tryz.prog.cellsOf 29))=some y0:=hf 0 _ rfl
 have h1:DataW.trod enc Tryz.prog w 0 (fun _=>true) held n 3 (([c0,c1].drop 1).take (Tryz.prog.cellsOf 3))=some y1:=hf 1 _ rfl
 rw [show Tryz.prog.cellsOf 29=1 by kernel_rfl] at h0
 rw [Qy] at h1
 obtain⟨l,ht,hb,hs⟩:=trod_textsV (v:=c0) (x:=y0) h0 (fun k hk=>hw k (by rw [hxe];exact xL (j:=0) (y:=y0) underlying31 rfl rfl hk))
 obtain⟨i,e1,_,w1⟩:=DataW.trod_int underlying3 (x:=y1) h1
 simp at e1
 subst e1
 obtain⟨a,c,rfl,-,-⟩:=ht.form
 exact⟨⟨l,i⟩,a,c,rfl,ht,hb,hs⟩
end
section
variable {H : Type} {enc : TypeId × Value → H} {w : World} {held : Bool}
theorem trod_key {fuel:Nat}{cs:List Value}{x:DataW H×List MemPlace}(h:DataW.trod enc Tryz.prog w 0 (fun _=>true) held fuel 47 cs=some x):∃ k:zY,cs=kz k∧(qX k.bits∧k.root.length=32):=by
 obtain⟨xs,n,hfu,hxe,hl,hlen,hf⟩:=DataW.trod_struct underlying47 h
 rw [show Tryz.prog.cellsOf 47=34 by kernel_rfl] at hl
 rcases cs with _ | ⟨c0,_ | ⟨c1,l⟩⟩
 ·cases hl
 ·cases hl
 have hll:l.length=32:=by simpa using hl
 rcases xs with _ | ⟨y0,_ | ⟨y1,_ | ⟨y2,ys⟩⟩⟩
 ·cases hlen
 ·cases hlen
 ·cases hlen
 have h0:DataW.trod enc Tryz.prog w 0 (fun _=>true) held n 3 (((c0::c1::l).drop 0).take (Tryz.prog.cellsOf 3))=some y0:=hf 0 _ rfl
 have h1:DataW.trod enc Tryz.prog w 0 (fun _=>true) held n 3 (((c0::c1::l).drop 1).take (Tryz.prog.cellsOf 3))=some y1:=hf 1 _ rfl
 have h2:DataW.trod enc Tryz.prog w 0 (fun _=>true) held n 45 (((c0::c1::l).drop 2).take (Tryz.prog.cellsOf 45))=some y2:=hf 2 _ rfl
 rw [Qy] at h0 h1
 rw [show Tryz.prog.cellsOf 45=32 by kernel_rfl,show (c0::c1::l).drop 2=l from rfl,List.take_of_length_le Ws] at h2
 obtain⟨b,e0,_,w0⟩:=DataW.trod_int underlying3 (x:=y0) h0
 obtain⟨g,e1,_,w1⟩:=DataW.trod_int underlying3 (x:=y1) h1
 obtain rfl:c0 = .int .i64 b:=by simpa using e0
 obtain rfl:c1 = .int .i64 g:=by simpa using e1
 obtain⟨zs,m,_,_,_,hzs,hi⟩:=DataW.trod_array underlying45 h2
 rw [show Tryz.prog.cellsOf 5=1 by kernel_rfl] at hi
 have e:(l.map ZT).map bv=l:=by
  apply List.ext_getElem Wz
  intro i q1 q2
  have q3:=hi i Ws
  rw [one_cellV q2,List.getElem?_eq_getElem Ws] at q3
  obtain⟨z,e2,_,w2⟩:=DataW.trod_int underlying5 q3
  have e3:l[i] = .int .u8 z:=by simpa using e2
  simp only [List.getElem_map]
  rw [e3]
  exact byteOfV_wf w2
 refine⟨⟨b,g,l.map ZT⟩,?_,?_,?_⟩
 ·show _=Value.int .i64 b :: .int .i64 g::(l.map ZT).map bv
  rw [e]
 ·unfold Lit.wf at w0
  simp only [Bool.and_eq_true,decide_eq_true_eq] at w0
  exact⟨w0.1,w0.2⟩
 ·show (l.map ZT).length=32
  rw [List.length_map,hll]
end
theorem Qq {α:Type}{size:Nat}{cell:α→List Value}{Q:α→Prop}:∀ (n:Nat) (xs:List Value),xs.length=n*size→(∀ i,i<n→∃ a,(xs.drop (i*size)).take size=cell a∧Q a)→∃ l:List α,l.length=n∧l.flatMap cell=xs∧∀ a,a∈l→Q a
 | 0,xs,hl,_=>⟨[],rfl,by rw [Nat.zero_mul] at hl;rw [List.eq_nil_of_length_eq_zero hl];rfl,fun _ h=>(nomatch h)⟩
 | n+1,xs,hl,h=>by
  obtain⟨a,h1,h2⟩:=h 0 Ws
  rw [Nat.zero_mul,List.drop_zero] at h1
  obtain⟨l,h3,h4,h5⟩:=Qq (size:=size) (cell:=cell) (Q:=Q) n (xs.drop size) (by rw [List.length_drop,hl,Nat.add_mul];omega) (fun i hi=>by
   obtain⟨b,h6,h7⟩:=h (i+1) Ws
   refine⟨b,?_,h7⟩
   rw [List.drop_drop,← h6]
   congr 2
   rw [Nat.add_mul]
   omega)
  refine⟨a::l,by simp [h3],?_,fun b hb=>?_⟩
  ·rw [List.flatMap_cons,h4,← h1,List.take_append_drop]
  ·rcases List.mem_cons.1 hb with rfl | hb
   ·exact h2
   ·exact h5 b hb
section
variable {H : Type} {enc : TypeId × Value → H} {w : World} {held : Bool}
theorem trod_sigrow {fuel:Nat}{cs:List Value}{x:DataW H×List MemPlace}(h:DataW.trod enc Tryz.prog w 0 (fun _=>true) held fuel 40 cs=some x) {B:Nat}(hw:∀ k,k∈x.1.weights Tryz.prog 40→k≤B):∃ r:yr,cs=r.enc∧(r.id.size≤B∧r.sig.size≤B):=by
 obtain⟨xs,n,hfu,hxe,hl,hlen,hf⟩:=DataW.trod_struct underlying40 h
 rw [show Tryz.prog.cellsOf 40=2 by kernel_rfl] at hl
 obtain⟨c0,c1,rfl⟩:=jM hl
 obtain⟨y0,y1,rfl⟩:=jM hlen
 have h0:DataW.trod enc Tryz.prog w 0 (fun _=>true) held n 9 (([c0,c1].drop 0).take (Tryz.prog.cellsOf 9))=some y0:=hf 0 _ rfl
 have h1:DataW.trod enc Tryz.prog w 0 (fun _=>true) held n 9 (([c0,c1].drop 1).take (Tryz.prog.cellsOf 9))=some y1:=hf 1 _ rfl
 rw [bG] at h0 h1
 obtain⟨s,e0,f0,-⟩:=DataW.trod_string underlying9 h0
 obtain⟨t,e1,f1,-⟩:=DataW.trod_string underlying9 h1
 obtain rfl:c0 = .string s:=by simpa using e0
 obtain rfl:c1 = .string t:=by simpa using e1
 have q0:=hw s.data.toList.length (by rw [hxe];exact xL (j:=0) (y:=y0) underlying40 rfl rfl (by rw [f0];show _∈DataW.weights Tryz.prog 9 (.lit (.string s.data.toList));simp [DataW.weights]))
 have q1:=hw t.data.toList.length (by rw [hxe];exact xL (j:=1) (y:=y1) underlying40 rfl rfl (by rw [f1];show _∈DataW.weights Tryz.prog 9 (.lit (.string t.data.toList));simp [DataW.weights]))
 exact⟨⟨s,t⟩,rfl,by simpa using q0,by simpa using q1⟩
theorem trod_sigs {fuel:Nat}{v:Value}{x:DataW H×List MemPlace}(h:DataW.trod enc Tryz.prog w 0 (fun _=>true) held fuel 26 [v]=some x) {B:Nat}(hw:∀ k,k∈x.1.weights Tryz.prog 26→k≤B):∃ l:List yr,q8 w v l∧l.length≤B∧∀ r,r∈l→r.id.size≤B∧r.sig.size≤B:=by
 obtain⟨n,xs,h1,h2,h3⟩:=be underlying26 (show Tryz.prog.cellsOf 40=2 by kernel_rfl) Wo h hw (by rw [show Tryz.prog.bytesOf 40=32 by kernel_rfl];decide)
 obtain⟨l,hl,hx,hq⟩:=Qq (cell:=yr.enc) (Q:=fun r=>r.id.size≤B∧r.sig.size≤B) n xs h1.1 (fun i hi=>by
  rcases h3 with h0 | ⟨m,_,h3⟩
  ·omega
  obtain⟨y,hy,hwy⟩:=h3 i hi
  exact trod_sigrow hy hwy)
 refine⟨l,?_,Ws,hq⟩
 unfold q8 ZF
 rw [hl,hx]
 exact h1
theorem trod_keyrow {fuel:Nat}{cs:List Value}{x:DataW H×List MemPlace}(h:DataW.trod enc Tryz.prog w 0 (fun _=>true) held fuel 49 cs=some x):∃ r:xW,cs=r.enc∧r.fine:=by
 obtain⟨xs,n,hfu,hxe,hl,hlen,hf⟩:=DataW.trod_struct underlying49 h
 rw [show Tryz.prog.cellsOf 49=35 by kernel_rfl] at hl
 rcases cs with _ | ⟨c0,l⟩
 ·cases hl
 have hll:l.length=34:=by simpa using hl
 obtain⟨y0,y1,rfl⟩:=jM hlen
 have h0:DataW.trod enc Tryz.prog w 0 (fun _=>true) held n 9 (((c0::l).drop 0).take (Tryz.prog.cellsOf 9))=some y0:=hf 0 _ rfl
 have h1:DataW.trod enc Tryz.prog w 0 (fun _=>true) held n 47 (((c0::l).drop 1).take (Tryz.prog.cellsOf 47))=some y1:=hf 1 _ rfl
 rw [bG] at h0
 rw [show Tryz.prog.cellsOf 47=34 by kernel_rfl,show (c0::l).drop 1=l from rfl,List.take_of_length_le Ws] at h1
 obtain⟨s,e0,-,-⟩:=DataW.trod_string underlying9 h0
 obtain rfl:c0 = .string s:=by simpa using e0
 obtain⟨k,rfl,hk⟩:=trod_key h1
 exact⟨⟨s,k⟩,rfl,hk.2,hk.1⟩
theorem trod_keys {fuel:Nat}{v:Value}{x:DataW H×List MemPlace}(h:DataW.trod enc Tryz.prog w 0 (fun _=>true) held fuel 32 [v]=some x) {B:Nat}(hw:∀ k,k∈x.1.weights Tryz.prog 32→k≤B):∃ l:List xW,Slc w 35 v l.length (vW l)∧l.length≤B∧∀ r,r∈l→r.fine:=by
 obtain⟨n,xs,h1,h2,h3⟩:=be underlying32 (show Tryz.prog.cellsOf 49=35 by kernel_rfl) Wo h hw (by rw [show Tryz.prog.bytesOf 49=64 by kernel_rfl];decide)
 obtain⟨l,hl,hx,hq⟩:=Qq (cell:=xW.enc) (Q:=xW.fine) n xs h1.1 (fun i hi=>by
  rcases h3 with h0 | ⟨m,_,h3⟩
  ·omega
  obtain⟨y,hy,hwy⟩:=h3 i hi
  exact trod_keyrow hy)
 refine⟨l,?_,Ws,hq⟩
 unfold vW
 rw [hl,hx]
 exact h1
theorem trod_room {P:Program}{t e:TypeId}(ht:P.underlying t=some (.slice e)) {fuel:Nat}{v:Value}{x:DataW H×List MemPlace}{B:Nat}(h:DataW.trod enc P w 0 (fun _=>true) held fuel t [v]=some x) (hw:∀ k,k∈x.1.weights P t→k≤B):∃ a len cap,v = .slice a len cap∧len*P.bytesOf e≤B:=by
 rcases DataW.trod_slice ht h with ⟨hcs,_⟩ | ⟨a,len,cap,elems,rest,m,hfuel,hcs,hxe,_,hl,hm,hel,hx,_⟩
 ·obtain rfl:v = .slice none 0 0:=by simpa using hcs
  exact⟨none,0,0,rfl,Ws⟩
 ·obtain rfl:v = .slice (some a) len cap:=by simpa using hcs
  refine⟨some a,len,cap,rfl,?_⟩
  rw [hxe] at hw
  have hwe:(DataW.slice (elems.map (·.1)) (rest.map (·.1)):DataW H).weights P t=((elems.map (·.1)).length+(rest.map (·.1)).length)*P.bytesOf e::(DataW.weightsAll P e (elems.map (·.1))++DataW.weightsAll P e (rest.map (·.1))):=by
   rw [DataW.weights,ht]
  simp only at hw
  rw [hwe] at hw
  have h1:=hw _ (List.mem_cons_self ..)
  rw [List.length_map,List.length_map,hel] at h1
  exact Nat.le_trans (Nat.mul_le_mul_right _ (Nat.le_add_right _ _)) h1
theorem six_cells {α:Type}{l:List α}(h:l.length=6):∃ a b c d e f,l=[a,b,c,d,e,f]:=by
 rcases l with _ | ⟨a,_ | ⟨b,_ | ⟨c,_ | ⟨d,_ | ⟨e,_ | ⟨f,_ | ⟨g,l⟩⟩⟩⟩⟩⟩⟩ <;> simp at h
 exact⟨a,b,c,d,e,f,rfl⟩
theorem trod_env {fuel:Nat}{cs:List Value}{x:DataW H×List MemPlace}(h:DataW.trod enc Tryz.prog w 0 (fun _=>true) held fuel 28 cs=some x) {B:Nat}(hB:B≤BB) (hw:∀ k,k∈x.1.weights Tryz.prog 28→k≤B) :
  ∃ (n:Nat) (v:V n) (vcs:List Value) (a:Option Addr) (c:Nat) (l:List yr),cs=vG vcs a l.length c∧bm n BB (fun g=>g<w.heap.size) w vcs v∧q8 w (.slice a l.length c) l∧(∀ r,r∈l→r.id.size≤B∧r.sig.size≤B)∧l.length≤B∧l.length*32≤B:=by
 obtain⟨xs,n,hfu,hxe,hl,hlen,hf⟩:=DataW.trod_struct underlying28 h
 rw [show Tryz.prog.cellsOf 28=6 by kernel_rfl] at hl
 obtain⟨c0,c1,c2,c3,c4,c5,rfl⟩:=six_cells hl
 obtain⟨y0,y1,rfl⟩:=jM hlen
 have h0:DataW.trod enc Tryz.prog w 0 (fun _=>true) held n 25 (([c0,c1,c2,c3,c4,c5].drop 0).take (Tryz.prog.cellsOf 25))=some y0:=hf 0 _ rfl
 have h1:DataW.trod enc Tryz.prog w 0 (fun _=>true) held n 26 (([c0,c1,c2,c3,c4,c5].drop 5).take (Tryz.prog.cellsOf 26))=some y1:=hf 1 _ rfl
 rw [show Tryz.prog.cellsOf 25=5 by kernel_rfl] at h0
 rw [show Tryz.prog.cellsOf 26=1 by kernel_rfl] at h1
 obtain⟨v,hv⟩:=trod_value n h0 (B:=BB) (fun k hk=>Nat.le_trans (hw k (by rw [hxe];exact xL (j:=0) (y:=y0) underlying28 rfl rfl hk)) hB)
 obtain⟨l,hs,hn,hz⟩:=trod_sigs (v:=c5) h1 (fun k hk=>hw k (by rw [hxe];exact xL (j:=1) (y:=y1) underlying28 rfl rfl hk))
 obtain⟨a',len,cap,e9,hroom⟩:=trod_room (v:=c5) underlying26 h1 (fun k hk=>hw k (by rw [hxe];exact xL (j:=1) (y:=y1) underlying28 rfl rfl hk))
 rw [show Tryz.prog.bytesOf 40=32 by kernel_rfl] at hroom
 obtain⟨a,c,rfl,-,-⟩:=hs.form
 obtain rfl:l.length=len:=by simp only [Value.slice.injEq] at e9;exact e9.2.1
 exact⟨n,v,_,a,c,l,rfl,hv,hs,hz,hn,hroom⟩
end
theorem refLarge_any {n:Nat}{v:V n}{S:Nat→Prop}{w:World}{cs:List Value}(h:Rep n S w cs v) (ht:qV BB n v) :
  CL w 34 #[.agg cs.toArray] (.bool (decide (6000<zG n 0 v))):=by
 obtain⟨kd,nm,st,a1,b1,rfl⟩:=h.five
 obtain⟨p1,i1,d1,p2,i2,d2,rfl,rfl⟩:=h.sl
 obtain⟨W0,Ga⟩:∃ W0,Hid (W0=w.alloc (.cells #[.int .i64 kd,.int .i64 nm,.string st,.slice p1 i1 d1,.slice p2 i2 d2] 25)):=⟨_,qI rfl⟩
 have Gb:Hid (zb [] w W0):=qI (kA1 Ga.o)
 have CL:=qI (large_any n v (h.kept0 Gb.o) ht (d:=0) Ws)
 rw [show ((0:Nat):Int)=0 from rfl] at CL
 have HF:Hid (decide ((6000:Int)<(zG n 0 v:Int))=decide (6000<zG n 0 v)):=qI (by
  by_cases h:6000<zG n 0 v
  ·rw [decide_eq_true h,decide_eq_true Ws]
  ·rw [decide_eq_false h,decide_eq_false Ws])
 clear h ht
 revert CL HF
 generalize zG n 0 v=L
 intro CL HF
 go_enter func34,ntmps34
 go_wp2_with fail
 rw [← Ga.o]
 refine CL.o.mono ?_
 rintro e w2 ⟨rfl,hk2⟩
 have Gc:=qI (Gb.o.then hk2)
 clear hk2
 go_wp2_with fail
 go_ret
 exact⟨bt HF.o,Gc.o⟩
theorem Y9 {n:Nat}{v:V n}{S:Nat→Prop}{w:World}{cs:List Value}(h:Rep n S w cs v) (hs:yA n v) (hn:n≤100) :
  CL w 30 #[.agg cs.toArray] (.int .i64 (yQ n v)):=by
 obtain⟨kd,nm,st,a1,b1,rfl⟩:=h.five
 obtain⟨p1,i1,d1,p2,i2,d2,rfl,rfl⟩:=h.sl
 obtain⟨W0,Ga⟩:∃ W0,Hid (W0=w.alloc (.cells #[.int .i64 kd,.int .i64 nm,.string st,.slice p1 i1 d1,.slice p2 i2 d2] 25)):=⟨_,qI rfl⟩
 have Gb:Hid (zb [] w W0):=qI (kA1 Ga.o)
 have Gd:Hid (qq W0 w.heap.size kd nm st (.slice p1 i1 d1) (.slice p2 i2 d2)):=qI (by rw [Ga.o];exact xr _ _ _ _ _ _ _)
 have C1:=qI (depth_any n v (h.kept0 Gb.o) hs hn)
 have C2:Hid (∀ w1,zb [] W0 w1→_):=qI fun w1 (k:zb [] W0 w1)=>count_any n v (h.kept0 (Gb.o.trans' k)) hs
 have C3:Hid (∀ w1,zb [] W0 w1→_):=qI fun w1 (k:zb [] W0 w1)=>refRight_any n v (h.kept0 (Gb.o.trans' k)) hs
 have hct:=hs.1
 have hdt:zE n v≤100:=Nat.le_trans (kC n v) hn
 have HC:Hid (yQ n v=if 12<zE n v then 41 else if 4096<zw n v then 42 else if zr n v then 0 else 40):=qI rfl
 clear h hs
 revert C1 C2 C3 hct hdt HC
 generalize zE n v=D
 generalize zw n v=C
 generalize zr n v=R
 generalize yQ n v=K
 intro C1 C2 C3 hct hdt HC
 by_cases h1:12<D
 ·have h1I:(12:Int)<D:=by omega
  have HF:Hid (K=41):=qI (by rw [HC.o,if_pos h1])
  go_enter func30,ntmps30
  go_wp2_with fail
  rw [← Ga.o]
  refine C1.o.mono ?_
  rintro e w2 ⟨rfl,hk2⟩
  have Gc:=qI (Gb.o.then hk2)
  clear hk2
  go_wp2_with fail
  go_ret
  rw [HF.o]
  exact⟨rfl,Gc.o⟩
 have h1I:¬ (12:Int)<D:=Ws
 by_cases h2:4096<C
 ·have h2I:(4096:Int)<C:=by omega
  have HF:Hid (K=42):=qI (by rw [HC.o,if_neg h1,if_pos h2])
  go_enter func30,ntmps30
  go_wp2_with fail
  rw [← Ga.o]
  refine C1.o.mono ?_
  rintro e w2 ⟨rfl,hk2⟩
  have Gc:=qI hk2
  obtain⟨c0,c1,c2,c3,c4⟩:=Gd.o.kept0 hk2
  clear hk2
  go_wp2_with (go_at_call 63;refine (C2.o _ Gc.o).mono ?_;rintro e w3 ⟨rfl,hk3⟩)
  go_ret
  rw [HF.o]
  exact⟨rfl,(Gb.o.then Gc.o).then hk3⟩
 have h2I:¬ (4096:Int)<C:=Ws
 cases R with
 | true=>
  have HF:Hid (K=0):=qI (by rw [HC.o,if_neg h1,if_neg h2,if_pos rfl])
  clear h1 h2
  go_enter func30,ntmps30
  go_wp2_with fail
  rw [← Ga.o]
  refine C1.o.mono ?_
  rintro e w2 ⟨rfl,hk2⟩
  have Gc:=qI hk2
  obtain⟨c0,c1,c2,c3,c4⟩:=Gd.o.kept0 hk2
  clear hk2
  go_wp2_with (first
   | (go_at_call 63;refine (C2.o _ Gc.o).mono ?_;rintro e w3 ⟨rfl,hk3⟩;have Gf:=qI (Gc.o.then hk3);obtain⟨y0,y1,y2,y3,y4⟩:=Gd.o.kept0 Gf.o;clear hk3)
   | (go_at_call 64;refine (C3.o _ Gf.o).mono ?_;rintro e w4 ⟨rfl,hk4⟩))
  go_ret
  rw [HF.o]
  exact⟨rfl,(Gb.o.then Gf.o).then hk4⟩
 | false=>
  have HF:Hid (K=40):=qI (by rw [HC.o,if_neg h1,if_neg h2,if_neg Wz])
  clear h1 h2
  go_enter func30,ntmps30
  go_wp2_with fail
  rw [← Ga.o]
  refine C1.o.mono ?_
  rintro e w2 ⟨rfl,hk2⟩
  have Gc:=qI hk2
  obtain⟨c0,c1,c2,c3,c4⟩:=Gd.o.kept0 hk2
  clear hk2
  go_wp2_with (first
   | (go_at_call 63;refine (C2.o _ Gc.o).mono ?_;rintro e w3 ⟨rfl,hk3⟩;have Gf:=qI (Gc.o.then hk3);obtain⟨y0,y1,y2,y3,y4⟩:=Gd.o.kept0 Gf.o;clear hk3)
   | (go_at_call 64;refine (C3.o _ Gf.o).mono ?_;rintro e w4 ⟨rfl,hk4⟩))
  go_ret
  rw [HF.o]
  exact⟨rfl,(Gb.o.then Gf.o).then hk4⟩
theorem bR {n:Nat}{S:Nat→Prop}{w:World}{cs:List Value}{v:V n}{a:Option Addr}{c:Nat}{l:List yr}(h:Env n S w cs v a c l) (ht:qC w) :
  CL w 25 #[.agg (vG cs a l.length c).toArray] (.bool (yj n v l)):=by
 obtain⟨kd,nm,st,p1,i1,d1,p2,i2,d2,rfl⟩:=h.rep.conv
 obtain⟨W0,Ga⟩:∃ W0,Hid (W0=w.alloc (.cells #[.int .i64 kd,.int .i64 nm,.string st,.slice p1 i1 d1,.slice p2 i2 d2,.slice a l.length c] 28)):=⟨_,qI rfl⟩
 have Gb:Hid (zb [] w W0):=qI (kA1 Ga.o)
 have Gd:Hid (W0.heap[w.heap.size]? = some (.cells #[.int .i64 kd,.int .i64 nm,.string st,.slice p1 i1 d1,.slice p2 i2 d2,.slice a l.length c] 28 (0,0))):=qI (by rw [Ga.o];exact zd rfl)
 have HE:=qI (h.kept0 Gb.o)
 have HT:=qI (ht.kept0 Gb.o)
 have CC:Hid (CK W0 55 #[.agg #[.int .i64 kd,.int .i64 nm,.string st,.slice p1 i1 d1,.slice p2 i2 d2]] (.int .i64 (yQ n v))):=qI (fun w2 hk=>Qw (HE.o.rep.kept0 hk) HE.o.small HE.o.deep (HT.o.kept0 hk))
 have CD:Hid (CK W0 56 #[.agg #[.int .i64 kd,.int .i64 nm,.string st,.slice p1 i1 d1,.slice p2 i2 d2]] (.int .i64 (zE n v))):=qI (fun w2 hk=>valDepth_any (HE.o.rep.kept0 hk) HE.o.small HE.o.deep (HT.o.kept0 hk))
 have CN:Hid (CK W0 57 #[.slice a l.length c,.func (.func 58) #[] #[]] (.bool (!(l.all yX)))):=qI (fun w2 hk=>noRows_any (HE.o.rows.kept0 hk) HE.o.texts HE.o.few)
 have HM:Hid (yj n v l=(decide (kd=6)&&(decide (yQ n v=0)&&(decide (zE n v<12)&&(decide (l.length≤16)&&l.all yX))))):=qI (by unfold yj;rw [← HE.o.rep.kindE])
 have hdm:zE n v≤100:=Nat.le_trans (kC n v) h.deep
 have hlm:=h.few
 clear h ht
 generalize yj n v l=M at HM
 generalize yQ n v=K at CC HM
 generalize zE n v=D at CD HM hdm
 generalize l.all yX=R at CN HM
 generalize l.length=m at Ga Gd CN HM hlm ⊢
 have hdI:(D:Int)≤100:=Ws
 have hmI:(m:Int)≤1000000:=Ws
 obtain⟨c0,c1,c2,c3,c4,c5⟩:=xT Gd.o
 show Calls _ _ #[.agg #[.int .i64 kd,.int .i64 nm,.string st,.slice p1 i1 d1,.slice p2 i2 d2,.slice a m c]] _ _
 by_cases h6:kd=6
 rotate_left
 ·obtain⟨f1,f2⟩:=yF h6
  rw [decide_eq_false h6] at HM
  clear h6
  go_enter func25,ntmps25
  go_upto_region 1 with fail
  refine yq Ga.o ?_
  go_wp2_with fail
  go_ret
  exact⟨by rw [HM.o];rfl,Gb.o⟩
 rw [decide_eq_true h6] at HM
 subst h6
 by_cases hc:K=0
 rotate_left
 ·obtain⟨f1,f2⟩:=yF hc
  rw [decide_eq_false hc] at HM
  clear hc
  go_enter func25,ntmps25
  go_upto_region 1 with fail
  refine yq Ga.o ?_
  go_wp2_with (go_at_call 55;refine (CC.o _ Wd).mh ?_;rintro e w1 rfl HK)
  go_ret
  exact⟨by rw [HM.o];rfl,Gb.o.then HK.o⟩
 rw [decide_eq_true hc] at HM
 subst hc
 by_cases hd:D<12
 rotate_left
 ·have hdI2:(12:Int)≤D:=by omega
  rw [decide_eq_false hd] at HM
  clear hd
  go_enter func25,ntmps25
  go_upto_region 1 with fail
  refine yq Ga.o ?_
  go_upto_region 3 with (go_at_call 55;refine (CC.o _ Wd).mono ?_;rintro e w1 ⟨rfl,hk⟩;have y0:=hk.cell c0 Wz;have y1:=hk.cell c1 Wz;have y2:=hk.cell c2 Wz;have y3:=hk.cell c3 Wz;have y4:=hk.cell c4 Wz;have HK:=qI hk;clear hk c0 c1 c2 c3 c4 c5)
  go_wp2_with (go_at_call 56;refine (CD.o _ HK.o).mh ?_;rintro e w2 rfl Gc)
  go_ret
  exact⟨by rw [HM.o];rfl,Gb.o.then (HK.o.then Gc.o)⟩
 have hdI2:(D:Int)<12:=Ws
 rw [decide_eq_true hd] at HM
 clear hd
 by_cases hm:m≤16
 rotate_left
 ·have hmI2:(16:Int)<m:=by omega
  rw [decide_eq_false hm] at HM
  clear hm
  go_enter func25,ntmps25
  go_upto_region 1 with fail
  refine yq Ga.o ?_
  go_upto_region 3 with (go_at_call 55;refine (CC.o _ Wd).mono ?_;rintro e w1 ⟨rfl,hk⟩;have y0:=hk.cell c0 Wz;have y1:=hk.cell c1 Wz;have y2:=hk.cell c2 Wz;have y3:=hk.cell c3 Wz;have y4:=hk.cell c4 Wz;have y5:=hk.cell c5 Wz;have HK:=qI hk;clear hk c0 c1 c2 c3 c4 c5)
  go_wp2_with (go_at_call 56;refine (CD.o _ HK.o).mono ?_;rintro e w2 ⟨rfl,hk⟩;have x5:=hk.cell y5 Wz;have Gc:=qI hk;clear hk y0 y1 y2 y3 y4 y5)
  go_ret
  exact⟨by rw [HM.o];rfl,Gb.o.then (HK.o.then Gc.o)⟩
 have hmI2:(m:Int)≤16:=Ws
 rw [decide_eq_true hm] at HM
 clear hm
 go_enter func25,ntmps25
 go_upto_region 1 with fail
 refine yq Ga.o ?_
 go_upto_region 3 with (go_at_call 55;refine (CC.o _ Wd).mono ?_;rintro e w1 ⟨rfl,hk⟩;have y0:=hk.cell c0 Wz;have y1:=hk.cell c1 Wz;have y2:=hk.cell c2 Wz;have y3:=hk.cell c3 Wz;have y4:=hk.cell c4 Wz;have y5:=hk.cell c5 Wz;have HK:=qI hk;clear hk c0 c1 c2 c3 c4 c5)
 go_upto_region 5 with (go_at_call 56;refine (CD.o _ HK.o).mono ?_;rintro e w2 ⟨rfl,hk⟩;have x5:=hk.cell y5 Wz;have Gc:=qI (HK.o.then hk);clear hk y0 y1 y2 y3 y4 y5)
 go_wp2_with (go_at_call 57;refine (CN.o _ Gc.o).mh ?_;rintro e w3 rfl Gf)
 go_ret
 exact⟨by rw [HM.o];cases R <;> rfl,Gb.o.then (Gc.o.then Gf.o)⟩
theorem body_any {n:Nat}{S:Nat→Prop}{w:World}{cs:List Value}{v:V n}{a:Option Addr}{c:Nat}{l:List yr}(h:Env n S w cs v a c l) (ht:qC w) :
  Calls Tryz.prog 40 #[.agg (vG cs a l.length c).toArray] w fun e w'=>(∃ q d,e = .returned (.slice q (xx n v l).length d)∧zp w' (.slice q (xx n v l).length d) (xx n v l))∧zb [] w w':=by
 obtain⟨kd,nm,st,p1,i1,d1,p2,i2,d2,rfl⟩:=h.rep.conv
 obtain⟨W0,Ga⟩:∃ W0,Hid (W0=w.alloc (.cells #[.int .i64 kd,.int .i64 nm,.string st,.slice p1 i1 d1,.slice p2 i2 d2,.slice a l.length c] 28)):=⟨_,qI rfl⟩
 have Gb:Hid (zb [] w W0):=qI (kA1 Ga.o)
 have Gd:Hid (W0.heap[w.heap.size]? = some (.cells #[.int .i64 kd,.int .i64 nm,.string st,.slice p1 i1 d1,.slice p2 i2 d2,.slice a l.length c] 28 (0,0))):=qI (by rw [Ga.o];exact zd rfl)
 have HE:=qI (h.kept0 Gb.o)
 have HT:=qI (ht.kept0 Gb.o)
 have CM:Hid (CL W0 25 #[.agg #[.int .i64 kd,.int .i64 nm,.string st,.slice p1 i1 d1,.slice p2 i2 d2,.slice a l.length c]] (.bool (yj n v l))):=qI (by have h1:=bR HE.o HT.o;exact h1)
 have CE:Hid (∀ w2,zb [] W0 w2→Calls Tryz.prog 78 #[.agg #[.int .i64 kd,.int .i64 nm,.string st,.slice p1 i1 d1,.slice p2 i2 d2]] w2 fun e w'=>(∃ a c,e = .returned (.tuple #[.slice a (qB n v).1.length c,.int .i64 (qB n v).2])∧zp w' (.slice a (qB n v).1.length c) (qB n v).1)∧zb [] w2 w'):=qI (fun w2 hk=>YH (HE.o.rep.kept0 hk) HE.o.small HE.o.deep (HT.o.kept0 hk))
 have HB:Hid (xx n v l=if yj n v l=true then (qB n v).1 else []):=qI (by unfold xx;rfl)
 clear h ht
 generalize yj n v l=M at CM HB
 generalize xx n v l=B at HB ⊢
 generalize (qB n v).1=E at CE HB
 generalize (qB n v).2=Z at CE
 generalize l.length=m at Ga Gd CM ⊢
 obtain⟨c0,c1,c2,c3,c4,c5⟩:=xT Gd.o
 show Calls _ _ #[.agg #[.int .i64 kd,.int .i64 nm,.string st,.slice p1 i1 d1,.slice p2 i2 d2,.slice a m c]] _ _
 cases M with
 | false=>
  go_enter func40,ntmps40
  go_upto_region 1 with fail
  refine yq Ga.o ?_
  go_wp2_with (go_at_call 25;refine CM.o.mh ?_;rintro e w1 rfl HK)
  go_ret
  rw [HB.o]
  exact⟨⟨_,_,rfl,yV _ _⟩,Gb.o.then HK.o⟩
 | true=>
  go_enter func40,ntmps40
  go_upto_region 1 with fail
  refine yq Ga.o ?_
  go_upto_region 3 with (go_at_call 25;refine CM.o.mono ?_;rintro e w1 ⟨rfl,hk⟩;have y0:=hk.cell c0 Wz;have y1:=hk.cell c1 Wz;have y2:=hk.cell c2 Wz;have y3:=hk.cell c3 Wz;have y4:=hk.cell c4 Wz;have HK:=qI hk;clear hk c0 c1 c2 c3 c4 c5)
  go_wp2_with (go_at_call 78;refine (CE.o _ HK.o).mono ?_;rintro e w2 ⟨⟨q,d,rfl,hb⟩,hk⟩;have Gc:=qI hk;have Gz:=qI hb;clear hk hb)
  go_ret
  rw [HB.o]
  exact⟨⟨_,_,rfl,Gz.o⟩,Gb.o.then (HK.o.then Gc.o)⟩
theorem list32 {α:Type}(r:List α) (h:r.length=32):∃ x0 x1 x2 x3 x4 x5 x6 x7 x8 x9 x10 x11 x12 x13 x14 x15 x16 x17 x18 x19 x20 x21 x22 x23 x24 x25 x26 x27 x28 x29 x30 x31:α,r=[x0,x1,x2,x3,x4,x5,x6,x7,x8,x9,x10,x11,x12,x13,x14,x15,x16,x17,x18,x19,x20,x21,x22,x23,x24,x25,x26,x27,x28,x29,x30,x31]:=by
 rcases r with _ | ⟨x0,r⟩
 ·simp at h
 rcases r with _ | ⟨x1,r⟩
 ·simp at h
 rcases r with _ | ⟨x2,r⟩
 ·simp at h
 rcases r with _ | ⟨x3,r⟩
 ·simp at h
 rcases r with _ | ⟨x4,r⟩
 ·simp at h
 rcases r with _ | ⟨x5,r⟩
 ·simp at h
 rcases r with _ | ⟨x6,r⟩
 ·simp at h
 rcases r with _ | ⟨x7,r⟩
 ·simp at h
 rcases r with _ | ⟨x8,r⟩
 ·simp at h
 rcases r with _ | ⟨x9,r⟩
 ·simp at h
 rcases r with _ | ⟨x10,r⟩
 ·simp at h
 rcases r with _ | ⟨x11,r⟩
 ·simp at h
 rcases r with _ | ⟨x12,r⟩
 ·simp at h
 rcases r with _ | ⟨x13,r⟩
 ·simp at h
 rcases r with _ | ⟨x14,r⟩
 ·simp at h
 rcases r with _ | ⟨x15,r⟩
 ·simp at h
 rcases r with _ | ⟨x16,r⟩
 ·simp at h
 rcases r with _ | ⟨x17,r⟩
 ·simp at h
 rcases r with _ | ⟨x18,r⟩
 ·simp at h
 rcases r with _ | ⟨x19,r⟩
 ·simp at h
 rcases r with _ | ⟨x20,r⟩
 ·simp at h
 rcases r with _ | ⟨x21,r⟩
 ·simp at h
 rcases r with _ | ⟨x22,r⟩
 ·simp at h
 rcases r with _ | ⟨x23,r⟩
 ·simp at h
 rcases r with _ | ⟨x24,r⟩
 ·simp at h
 rcases r with _ | ⟨x25,r⟩
 ·simp at h
 rcases r with _ | ⟨x26,r⟩
 ·simp at h
 rcases r with _ | ⟨x27,r⟩
 ·simp at h
 rcases r with _ | ⟨x28,r⟩
 ·simp at h
 rcases r with _ | ⟨x29,r⟩
 ·simp at h
 rcases r with _ | ⟨x30,r⟩
 ·simp at h
 rcases r with _ | ⟨x31,r⟩
 ·simp at h
 rcases r with _ | ⟨y,r⟩
 ·exact⟨x0,x1,x2,x3,x4,x5,x6,x7,x8,x9,x10,x11,x12,x13,x14,x15,x16,x17,x18,x19,x20,x21,x22,x23,x24,x25,x26,x27,x28,x29,x30,x31,rfl⟩
 ·simp at h
theorem built_row {id:ByteArray}{k:zY}(h:k.root.length=32):Tryz.prog.built 49 [(0,.string id),(1,.agg (ye k))]=some (kw id k).toArray:=by
 obtain⟨b,hh,r⟩:=k
 obtain⟨x0,x1,x2,x3,x4,x5,x6,x7,x8,x9,x10,x11,x12,x13,x14,x15,x16,x17,x18,x19,x20,x21,x22,x23,x24,x25,x26,x27,x28,x29,x30,x31,rfl⟩:=list32 r h
 kernel_rfl
theorem filled_row {id:ByteArray}{k:zY}(h:k.root.length=32) (z:Value):Instr.fill (fun i=>some (i*35,35)) ((Array.range (1*35)).map (z.cells[· % z.cells.size]!)) [(0,.agg (kw id k).toArray)]=some (kw id k).toArray:=by
 have hs:(kw id k).toArray.size=35:=by simp [qj h]
 obtain⟨r,h1,h2,h3⟩:=Go.Great.fill_dense (s:=35) Wo [.agg (kw id k).toArray] 0 ((Array.range (1*35)).map (z.cells[· % z.cells.size]!)) (by intro v hv;simp only [List.mem_singleton] at hv;subst hv;exact hs) Wz
 refine h1.trans (congrArg some (Array.ext_getElem? fun i=>?_))
 rw [h3 i]
 by_cases hi:i<35
 ·rw [if_pos (by simp;omega),show i/35-0=0 by omega,show i%35=i by omega]
  rfl
 ·rw [if_neg (by simp;omega),Array.getElem?_eq_none (by rw [Array.size_map,Array.size_range];omega),Array.getElem?_eq_none (by rw [hs];omega)]
theorem Kb {ops:Array Oper}{rest:List Oper}{op:Oper}{a:Act}{w:World}{Q:Exit→Act→World→Prop}(hgd:op.guard=none) (x y:Operand) (ho:op.op = .build 49 #[(0,x),(1,y)]) {id:ByteArray}{k:zY}(hl:k.root.length=32)
  (hx:a.eval x = .string id) (hy:a.eval y = .agg (ye k)) (h:wpList Tryz.prog ops Q rest (a.put op.dst (.agg (kw id k).toArray)) w):wpList Tryz.prog ops Q (op::rest) a w:=by
 refine wpList_plain hgd fun K hK=>?_
 unfold Oper.wp execOp
 simp only [ho,Sem.run_bind,List.map_toArray,List.map_cons,List.map_nil,hx,hy]
 rw [run_build w _ _ (kw id k).toArray (built_row hl)]
 exact hK _ _ h
theorem Q9 {ops:Array Oper}{rest:List Oper}{op:Oper}{a:Act}{w:World}{Q:Exit→Act→World→Prop}(hgd:op.guard=none) (x:Operand) (ho:op.op = .buildSlice 32 1 #[(0,x)]) {id:ByteArray}{k:zY}(hl:k.root.length=32)
  (hx:a.eval x = .agg (kw id k).toArray) (h:wpList Tryz.prog ops Q rest (a.put op.dst (.slice (some ⟨w.heap.size,0,none⟩) 1 1)) (w.alloc (.cells (kw id k).toArray 49))):wpList Tryz.prog ops Q (op::rest) a w:=by
 obtain⟨ie,hie⟩:∃ ie,Tryz.prog.info? 49=some ie:=Option.isSome_iff_exists.1 Wr
 have hsz:ie.size=35:=by
  have:=info35
  rw [hie] at this
  simpa using this
 obtain⟨z,hz⟩:∃ z,ie.zero=some z:=by
  have h1:((Tryz.prog.info? 49).bind (·.zero)).isSome=true:=Wr
  rw [hie] at h1
  exact Option.isSome_iff_exists.1 h1
 exact wpList_buildSlice hgd _ _ 1 #[(0,x)] ho (kw id k).toArray ie z underlying32 hie hz (by rw [hsz];decide) (by rw [hsz];decide) (by
  have h1:=filled_row (id:=id) hl z
  simp only [List.map_toArray,List.map_cons,List.map_nil,hx,hsz]
  exact h1) h
def J8 (z:Int):Int:=if 48≤z∧z≤57 then z-48 else if 97≤z∧z≤102 then z-97+10 else -1
theorem dig1_low (c:UInt8):(qf c=true→J8 c.toNat=(hv c:Int)∧hv c<16)∧(qf c=false→J8 c.toNat = -1):=by
 have h:∀ n:Fin 256,(qf (UInt8.ofNat n.val)=true→J8 (UInt8.ofNat n.val).toNat=(hv (UInt8.ofNat n.val):Int)∧hv (UInt8.ofNat n.val)<16)∧(qf (UInt8.ofNat n.val)=false→J8 (UInt8.ofNat n.val).toNat = -1):=by decide +kernel
 have:=h ⟨c.toNat,c.toNat_lt⟩
 simpa only [UInt8.ofNat_toNat] using this
theorem index_str {P:Program}{t:TypeId}(ht:P.underlying t=some .string) (s:ByteArray) (m:Nat) (h:m<s.data.toList.length) (W:World):(Instr.index t (.string s) (.int .i64 m)).run P W = .ok (.int .u8 s.data.toList[m].toNat) W:=by
 rw [run_index_string _ t s .i64 m ht,dif_pos ⟨Ws,by simp only [Array.length_toList] at h;have:s.data.size=s.size:=rfl;omega⟩]
 rfl
theorem index_str1 {P:Program}{t:TypeId}(ht:P.underlying t=some .string) (s:ByteArray) (m:Nat) (h:m+1<s.data.toList.length) (W:World):(Instr.index t (.string s) (.int .i64 ((m:Int)+1))).run P W = .ok (.int .u8 s.data.toList[m+1].toNat) W:=index_str ht s (m+1) h W
theorem hex_join16 (x y:Nat) (hx:x<16) (hy:y<16):Value.int .u8 ((16*(x:Int)+y)%256)=bv (UInt8.ofNat (x*16+y)):=by
 unfold bv
 congr 1
 have:(UInt8.ofNat (x*16+y)).toNat=x*16+y:=by simp [UInt8.toNat_ofNat'];omega
 rw [this]
 omega
theorem Z7 (z:Int) (h0:0≤z) (h1:z≤255) (w:World):Calls Tryz.prog 66 #[.int .u8 z] w fun e w'=>e = .returned (.int .i64 (J8 z))∧w=w':=by
 by_cases c1:48≤z∧z≤57
 ·have HZ:Hid (J8 z=z-48):=qI (by unfold J8;rw [if_pos c1])
  obtain⟨g1,g2⟩:=c1
  go_enter func66,ntmps66
  go_wp2_with fail
  go_ret
  exact⟨ZZ HZ.o.symm,rfl⟩
 by_cases c2:97≤z∧z≤102
 ·have HZ:Hid (J8 z=z-97+10):=qI (by unfold J8;rw [if_neg c1,if_pos c2])
  obtain⟨g1,g2⟩:=c2
  have g3:¬ z≤57:=Ws
  clear c1
  go_enter func66,ntmps66
  go_wp2_with fail
  go_ret
  exact⟨ZZ HZ.o.symm,rfl⟩
 have HZ:Hid (J8 z = -1):=qI (by unfold J8;rw [if_neg c1,if_neg c2])
 have d1:z<48∨(57<z∧z<97)∨102<z:=Ws
 clear c1 c2
 rcases d1 with g | ⟨g,g'⟩ | g
 ·have k1:¬ 48≤z:=by omega
  have k2:¬ 97≤z:=Ws
  go_enter func66,ntmps66
  go_wp2_with fail
  go_ret
  exact⟨ZZ HZ.o.symm,rfl⟩
 ·have k0:48≤z:=by omega
  have k1:¬ z≤57:=Ws
  have k2:¬ 97≤z:=Ws
  go_enter func66,ntmps66
  go_wp2_with fail
  go_ret
  exact⟨ZZ HZ.o.symm,rfl⟩
 ·have k0:48≤z:=by omega
  have k1:¬ z≤57:=Ws
  have k2:97≤z:=Ws
  have k3:¬ z≤102:=Ws
  go_enter func66,ntmps66
  go_wp2_with fail
  go_ret
  exact⟨ZZ HZ.o.symm,rfl⟩
theorem tyB1:yU Tryz.prog 53 5 1 1 (.int .u8 0):=⟨underlying53,Wr,rfl,Wo⟩
def UnhexR (w w':World) (e:Ending):Option (List UInt8)→Prop
 | none=>e = .returned (.tuple #[.slice none 0 0,.bool false])
 | some l=>∃ a c,e = .returned (.tuple #[.slice a l.length c,.bool true])∧zp w' (.slice a l.length c) l∧∀ g,zW (.slice a l.length c)=some g→w.heap.size≤g
theorem bS (s:ByteArray) (hs:s.size≤140737488355328) (w:World):Calls Tryz.prog 32 #[.string s] w fun e w'=>UnhexR w w' e (yJ s)∧zb [] w w':=by
 obtain⟨z,HZ⟩:∃ z,Hid (z=s.size):=⟨_,qI rfl⟩
 have HL:Hid (s.data.toList.length=s.size):=qI Wz
 have HU:Hid (yJ s=if s.size%2=0∧s.data.toList.all qf=true then some (xw s.data.toList) else none):=qI rfl
 have HP:=qI (jX s.data.toList)
 have Ja:=qI (Zk s.data.toList)
 have hsI:(s.size:Int)≤140737488355328:=Ws
 have Gu:Hid (∀ (j:Nat) (h:j<s.data.toList.length),qf s.data.toList[j]=false→yJ s=none):=qI (fun j h hl=>by
  rw [HU.o,if_neg]
  rintro ⟨-,ha⟩
  have:=List.all_eq_true.1 ha _ (List.getElem_mem h)
  rw [hl] at this;cases this)
 have hsN:=qI hs
 clear hs
 go_enter func32,ntmps32
 go_wp2_with fail
 go_loopw [4,5] (fun out i wr=>∃ (m k:Nat) (a:Option Addr) (c:Nat),i = .int .i64 m∧Hid (m=2*k∧m≤s.size)∧out = .slice a k c∧wr.ownsRow w.heap.size 5 1 (.slice a k c) k (((xw s.data.toList).take k).map bv)∧Hid (∀ (j:Nat) (h:j<s.data.toList.length),j<m→qf s.data.toList[j]=true)∧zb [] w wr) (fun _ i _=>s.size-(intOf i).toNat)
 case atStart=>exact⟨0,0,none,0,rfl,qI ⟨rfl,Nat.zero_le _⟩,rfl,World.ownsRow_nil _ _ _ _,qI (fun j h hj=>by omega),Wd⟩
 case round=>
  obtain⟨m,k,a,c,rfl,HM,rfl,hrow,Gk,hkr⟩:=hrel
  have Gg:=qI hrow
  have Gh:=qI hkr
  clear hrow hkr
  by_cases hlt:m<s.size
  ·have hltI:(m:Int)<s.size:=by omega
   by_cases hl2:m+1<s.size
   rotate_left
   ·have hge:(s.size:Int)≤(m:Int)+1:=by omega
    have HN:Hid (yJ s=none):=qI (by rw [HU.o,if_neg];rintro ⟨h1,-⟩;have:=HM.o.1;omega)
    clear hl2 hlt
    go_wp2_with fail
    go_ret2
    rw [HN.o]
    exact⟨rfl,Gh.o⟩
   have hge:(m:Int)+1<s.size:=Ws
   have hj1:m<s.data.toList.length:=by rw [HL.o];exact hlt
   have hj2:m+1<s.data.toList.length:=by rw [HL.o];exact hl2
   have I1:=qI (index_str underlying9 s m hj1)
   have I2:=qI (index_str1 underlying9 s m hj2)
   have N1:=qI (Gu.o m hj1)
   have N2:=qI (Gu.o (m+1) hj2)
   have D1:=qI (dig1_low s.data.toList[m])
   have D2:=qI (dig1_low s.data.toList[m+1])
   have L1:Hid (qf s.data.toList[m]=true→qf s.data.toList[m+1]=true→∀ (j:Nat) (h:j<s.data.toList.length),j<m+2→qf s.data.toList[j]=true):=qI (fun g1 g2 j h hj=>by
    rcases Nat.lt_or_ge j m with q | q
    ·exact Gk.o j h q
    ·obtain rfl | rfl:j=m∨j=m+1:=by omega
     ·exact g1
     ·exact g2)
   have C1:=qI (Z7 (s.data.toList[m].toNat:Int) Ws (by have:=s.data.toList[m].toNat_lt;omega))
   have C2:=qI (Z7 (s.data.toList[m+1].toNat:Int) Ws (by have:=s.data.toList[m+1].toNat_lt;omega))
   have hkp:2*k+1<s.data.toList.length:=by rw [← HM.o.1];exact hj2
   obtain⟨p1,p2⟩:=Ja.o k hkp
   have HN:Hid ((xw s.data.toList).take (k+1)=(xw s.data.toList).take k++[UInt8.ofNat (hv s.data.toList[m]*16+hv s.data.toList[m+1])]):=qI (by
    rw [List.take_succ_eq_append_getElem p1,p2]
    simp only [HM.o.1])
   have Gv:Hid (m+1<s.size):=qI hl2
   clear p1 p2 hkp
   revert I1 I2 N1 N2 D1 D2 L1 C1 C2 HN
   generalize s.data.toList[m]=xb
   generalize s.data.toList[m+1]=yb
   intro I1 I2 N1 N2 D1 D2 L1 C1 C2 HN
   obtain⟨px,HX⟩:∃ px:Int,Hid (px=xb.toNat):=⟨_,qI rfl⟩
   obtain⟨py,HY⟩:∃ py:Int,Hid (py=yb.toNat):=⟨_,qI rfl⟩
   rw [← HX.o] at I1 C1 D1
   rw [← HY.o] at I2 C2 D2
   clear hj1 hj2 hl2 hlt
   have hix:=I1.o
   have hiy:=I2.o
   rcases Bool.eq_false_or_eq_true (qf xb) with e1 | e1
   rotate_left
   ·have Gr:=qI (N1.o e1)
    rw [D1.o.2 e1] at C1
    go_wp2_with (go_at_call 66;refine (C1.o _).mono ?_;rintro e w5 ⟨rfl,rfl⟩)
    go_ret2
    rw [Gr.o]
    exact⟨rfl,Gh.o⟩
   obtain⟨d1,x16⟩:=D1.o.1 e1
   rcases Bool.eq_false_or_eq_true (qf yb) with e2 | e2
   rotate_left
   ·have Gr:=qI (N2.o e2)
    rw [D2.o.2 e2] at C2
    rw [d1] at C1
    clear d1 x16
    generalize hv xb=hx at *
    go_wp2_with first
     | (have Jb:=GO1;go_at_call 66;refine (C2.o _).mono ?_;rintro e w5 ⟨rfl,rfl⟩)
     | (go_at_call 66;refine (C1.o _).mono ?_;rintro e w5 ⟨rfl,rfl⟩;have GO1:=True.intro)
    go_ret2
    rw [Gr.o]
    exact⟨rfl,Gh.o⟩
   obtain⟨d2,y16⟩:=D2.o.1 e2
   rw [d1] at C1
   rw [d2] at C2
   have Jc:=qI (L1.o e1 e2)
   clear d1 d2 D1 D2 e1 e2 L1 N1 N2
   revert C1 C2 HN x16 y16
   generalize hv xb=hx
   generalize hv yb=hy
   intro HN C1 C2 x16 y16
   have X16:=qI x16
   have Y16:=qI y16
   clear x16 y16
   go_upto_region 7 with first
    | (have Jb:=GO1;go_at_call 66;refine (C2.o _).mono ?_;rintro e w5 ⟨rfl,rfl⟩)
    | (go_at_call 66;refine (C1.o _).mono ?_;rintro e w5 ⟨rfl,rfl⟩;have GO1:=True.intro)
   clear hix hiy
   obtain⟨bb,Gw⟩:∃ bb,Hid (bb=UInt8.ofNat (hx*16+hy)):=⟨_,qI rfl⟩
   rw [← Gw.o] at HN
   refine vZ (n:=48) 14 [fI (.slice a k c),
    fI (.string s),
    fI (.int .i64 m),
    fI (.int .u8 px),
    fI (.int .i64 hx),
    fI (.int .i64 (16*hx)),
    fI (.string s),
    fI (.int .i64 m),
    fI (.int .i64 (m+1)),
    fI (.int .u8 py),
    fI (.int .i64 hy),
    fI (.int .i64 (16*hx+hy)),
    fI (.int .u8 (bb.toNat:Int)),
    xD [bv bb] 1 1] Wr rfl Wr (fun x=>yH) (fun x hx=>by rw [show x 15 = .slice a k c from hx 15 Wo Wo]) ?_ ?_
   ·refine⟨?_,?_,?_,?_,?_,?_,?_,?_,?_,?_,?_,?_,?_,?_,trivial⟩ <;> intro x w2 hkw b hd
    ·exact ze
    ·exact ze
    ·exact ze
    ·have d1:x 1=_:=hd 1 Wr
     have d2:x 2=_:=hd 2 Wr
     have hix:=I1.o w2
     exact ze
    ·have d3:x 3=_:=hd 3 Wr
     have CX:=C1.o w2
     go_wp2_with (go_at_call 66;refine CX.mono ?_;rintro e w5 ⟨rfl,rfl⟩)
     exact⟨rfl,Wd⟩
    ·have d4:x 4=_:=hd 4 Wr
     have hxI:(hx:Int)<16:=by have:=X16.o;omega
     exact ze
    ·exact ze
    ·exact ze
    ·have d7:x 7=_:=hd 7 Wr
     exact ze
    ·have d6:x 6=_:=hd 6 Wr
     have d8:x 8=_:=hd 8 Wr
     have hix:=I2.o w2
     exact ze
    ·have d9:x 9=_:=hd 9 Wr
     have CX:=C2.o w2
     go_wp2_with (go_at_call 66;refine CX.mono ?_;rintro e w5 ⟨rfl,rfl⟩)
     exact⟨rfl,Wd⟩
    ·have d5:x 5=_:=hd 5 Wr
     have d10:x 10=_:=hd 10 Wr
     have hxI:(hx:Int)<16:=by have:=X16.o;omega
     have hyI:(hy:Int)<16:=by have:=Y16.o;omega
     exact ze
    ·have d11:x 11=_:=hd 11 Wr
     have HJ:Hid (Value.int .u8 ((16*(hx:Int)+hy)%256)=bv bb):=qI (by rw [Gw.o];exact hex_join16 hx hy X16.o Y16.o)
     go_wp2_with fail
     refine⟨?_,Wd⟩
     exact HJ.o
    ·have d12:x 12=_:=hd 12 Wr
     go_wp2_with fail
     exact⟨⟨w2.heap.size,rfl,Nat.le_refl _,Wz,jK w2 _ _ _ rfl⟩,Wd.alloc _⟩
   ·intro x9 w7 hkw b hd hwin
    have d0:x9 0=_:=hd 0 Wo
    obtain⟨g9,d13,g1,g2,hsl⟩:=hd 13 Wo
    have Jd:=qI hsl
    have Gs:=qI hkw
    clear hd hwin hkw hsl g1 g2
    change wpList _ _ _ [_,_] _ _
    go_wp2_with (at_builtin;refine zk tyB1 (v:=.slice a k c) (n:=k) (zo Gg.o Gs.o Wz) Jd.o (by simp [bv,Value.oneCell']) (by simp only [maxLen];have:=hsN.o;have:=HM.o;omega) (by have:=hsN.o;have:=HM.o;omega) (by have:=Gh.o.size;have:=Gs.o.size;simp;omega) rfl _ _ rfl d0 d13 ?_;intro v5 w8 hown hk5 _ hb5;obtain⟨a5,c5,rfl,-,-⟩:=(Slc.of_row hown).form;have Gt:=qI hown;have Je:=qI hk5;clear hown hk5 hb5)
    case roundEnd=>
     refine⟨⟨m+2,k+1,a5,c5,by go_num,qI (by have:=HM.o;have:=Gv.o;omega),rfl,by rw [HN.o,List.map_append];exact Gt.o,Jc,(Gh.o.then Gs.o).trans Je.o (fun i hi=>.inr (Gg.o.lt i (Option.mem_toList.1 hi)).1)⟩,by have:=Gv.o;simp [intOf];omega⟩
  ·have HE:Hid (yJ s=some (xw s.data.toList)):=qI (by
    have h1:=HM.o
    rw [HU.o,if_pos ⟨Ws,List.all_eq_true.2 (fun c hc=>by
     obtain⟨j,hj,rfl⟩:=List.getElem_of_mem hc
     exact Gk.o j hj (by rw [HL.o] at hj;omega))⟩])
   have Gx:Hid (k=(xw s.data.toList).length):=qI (by have h1:=HM.o;rw [HP.o,HL.o];omega)
   go_wp2_with fail
   go_ret2
   rw [HE.o]
   have hrow:=Gg.o
   rw [Gx.o,List.take_length] at hrow
   refine⟨⟨a,c,by rw [← Gx.o];rfl,Slc.of_row hrow,fun g hg=>(hrow.lt g (z6 hg)).1⟩,Gh.o⟩
theorem info5:(Tryz.prog.info? 25).map (·.size)=some 5:=Wr
abbrev ValAt (w:World) (g:Nat) (k m:Int) (s:ByteArray) (a b:Value):Prop:=w.heap[g]? = some (.cells #[.int .i64 k,.int .i64 m,.string s,a,b] 25 (0,0))
abbrev RolAt (w:World) (g:Nat) (a:Value) (n:Int):Prop:=w.heap[g]? = some (.cells #[a,.int .i64 n] 31 (0,0))
theorem wpList_store5 {ops:Array Oper}{rest:List Oper}{op:Oper}{a:Act}{w:World}{Q:Exit→Act→World→Prop}(hgd:op.guard=none) (x y:Operand) (ho:op.op = .store 25 x y) {g:Nat}{k m:Int}{s:ByteArray}{p q:Option Addr}{i c j d:Nat}(h0:ValAt w g 0 0 ⟨#[]⟩ (.slice none 0 0) (.slice none 0 0))
  (hx:a.eval x = .pointer (some ⟨g,0,none⟩)) (hy:a.eval y = .agg #[.int .i64 k,.int .i64 m,.string s,.slice p i c,.slice q j d]) (h:∀ w',ValAt w' g k m s (.slice p i c) (.slice q j d)→zb [g] w w'→wpList Tryz.prog ops Q rest (a.put op.dst undef) w'):wpList Tryz.prog ops Q (op::rest) a w:=by
 refine wpList_store_mid hgd 25 x y ho g 0 _ hx hy (fun z hz=>?_) info5 ?_ (h _ (vP h0 k m s (.slice p i c) (.slice q j d)) (yo _ _ _ _))
 ·rw [Nat.zero_add]
  refine⟨?_,zh h0⟩
  have hz':z<5:=hz
  rw [za (v:=(#[Value.int .i64 0,.int .i64 0,.string ⟨#[]⟩,.slice none 0 0,.slice none 0 0]:Array Value)[z]) h0 (by simp [hz'])]
  rfl
 ·exact all_oneCell_toArray (by intro v hv;simp only [List.mem_cons,List.not_mem_nil,or_false] at hv;rcases hv with rfl | rfl | rfl | rfl | rfl <;> rfl)
section
variable {H : Type} {enc : TypeId × Value → H}
theorem handed_shaped {a:Assume}{C:Checked}{os:Os}{f:FuncId}{fn:Func}{s:ChangeSpec}{conds:List PathCond}{apart fresh handsOn again:Bool}{X:World→Array Value→Prop}
  (hX:∀ (w w':World) (args:Array Value),w.heap=w'.heap→X w args→X w' args)
  (own:ownKnob C.prog.godebug=none) (started:os.Started) (noInit:C.prog.inits.idxOf? f=none) (hfn:C.prog.funcs[f]? = some fn)
  (witness:∃ (w:World) (tape:Tape) (i:Input),w.os=os∧(w.forCall tape i).Shaped C.prog∧i.vars=[]∧Input.okWide C.prog (w.forCall tape i) .any w.heap.size f i ∧
   ((s.pre enc C.prog fn conds apart (w.forCall tape i).memory i.args∧X (w.forCall tape i).memory i.args)∧sizedMet enc C.prog fn (OpenSpec.ofChange s) apart (w.forCall tape i).memory i.args)∧a.holds C.prog (lone (Frame.enter C.prog f i.args .normal) [] (w.forCall tape i)))
  (contract:∀ (W:World) (base:Nat) (args:Array Value) (ds gs:List (DataW H)) (before:List MemPlace),
   (∀ (j:Nat) t v,fn.params[j]? = some t→args[j]? = some v→Value.okWide C.prog W .any base t v) →
   DataW.Whole enc C.prog fn.params.toList s.vars apart W args.toList ds gs before →
   (DataW.weightsEach C.prog (fn.params.toList++s.plain.varTypes C.prog) (ds++gs)).all (· ≤ reachBytes)=true→X W args →
   W.ShapedOpen C.prog →
   Calls C.prog f args W fun e W'=>∃ v,e = .returned v∧s.post enc C.prog fn apart fresh handsOn again W args v W') :
  ReturnsInHanded a C os f .any (fun w args=>(s.pre enc C.prog fn conds apart w args∧X w args)∧sizedMet enc C.prog fn (OpenSpec.ofChange s) apart w args) (s.post enc C.prog fn apart fresh handsOn again):=by
 refine returnsInHanded_of_calls own started noInit witness ?_
 intro w tape i _ hsh _ hok hpre _
 obtain⟨_,_,_,fn',hfn',_,_,_,_,hval⟩:=hok
 obtain rfl:fn'=fn:=Option.some.inj (hfn'.symm.trans hfn)
 obtain⟨⟨⟨ds,gs,before,hw,-⟩,hx⟩,hz⟩:=hpre
 refine (contract (w.forCall tape i) w.heap.size i.args ds gs before hval (DataW.Whole.of_heap Wk hw) (hz.weights hw) (hX _ _ _ Wk hx) hsh).mono fun e W' h9=>?_
 obtain⟨v,rfl,hp⟩:=h9
 exact ChangeSpec.post_blind hp
end
end Go.Proofs.YtibnfbglanpoiaaGreatDoor

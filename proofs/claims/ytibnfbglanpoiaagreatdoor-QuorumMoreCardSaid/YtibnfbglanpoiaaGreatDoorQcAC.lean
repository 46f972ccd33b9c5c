/- Parts of one proof, merged: XBC XBD XBE XBT. -/
import Derived.Test.YtibnfbglanpoiaaGreatDoorQcAB
import Derived.Test.YtibnfbglanpoiaaGreatDoorQcR
import Derived.Laws.OwnMore
import Derived.Lib.SliceRun
set_option linter.all false
set_option maxHeartbeats 12800000
set_option maxRecDepth 10000
set_option linter.unusedVariables false
set_option linter.unusedSimpArgs false
set_option linter.unnecessarySimpa false
namespace Go.Proofs.YtibnfbglanpoiaaGreatDoor
open Go.Proofs.Tryz
open Go.RowKit
theorem tyTexts:yR Tryz.prog 29 9 1 16 (.string ByteArray.empty):=⟨underlying29,by kernel_rfl,rfl,by decide⟩
theorem texts_one (l:List ByteArray):∀ u ∈ l.map Value.string,u.oneCell'=true:=by
 intro u hu
 obtain⟨x,-,rfl⟩:=List.mem_map.1 hu
 rfl
@[go_sem] theorem eqlNilTexts (w:World) (a:Option Addr) (n c:Nat):(binOp .eql 29 (.slice a n c) (.slice none 0 0)).run Tryz.prog w = .ok (.bool a.isNone) w:=Lib.run_eql_slice_nil w _ _ a n c 0 0 underlying29
theorem KL {w:World}{v:Value}{l:List ByteArray}(h:xg w v l) (hl:l.length≤1000000) :
  Calls Tryz.prog 27 #[v] w fun e w'=>(∃ a c,e = .returned (.slice a l.length c)∧w'.ownsRow w.heap.size 9 1 (.slice a l.length c) l.length (l.map Value.string))∧zb [] w w':=by
 rcases h.2 with ⟨rfl,h0⟩ | h2
 ·have:l=[]:=List.eq_nil_of_length_eq_zero h0
  subst this
  go_enter func27,ntmps27
  go_wp2
  go_ret
  exact⟨⟨_,_,rfl,World.ownsRow_nil _ _ _ _⟩,zb.refl _ _⟩
 ·obtain⟨ad,cap,rfl⟩:∃ ad cap,v = .slice (some ad) l.length cap:=by
   rcases h2 with ⟨h0,a,c,rfl,_⟩ | ⟨g,o,c,rfl,_⟩
   ·exact⟨a,c,by rw [h0]⟩
   ·exact⟨_,_,rfl⟩
  have h1:=(zb.refl [] w).alloc (.cells #[] 9)
  have hown:=jT (size:=1) (base:=w.heap.size) (t:=9) w rfl (Nat.le_refl _)
  have hsrc:=h.kept0 h1
  go_enter func27,ntmps27
  go_wp2_with (at_builtin;refine zj tyTexts hown hsrc (texts_one l) (by simp only [maxLen];omega) (by omega) (by simp) rfl _ _ rfl rfl rfl ?_;intro v' w1 hown1 hk1 _ hb1)
  rw [Nat.zero_add,List.nil_append] at hown1
  obtain⟨a',c',rfl,-,-⟩:=(Slc.of_row hown1).form
  go_ret
  exact⟨⟨_,_,rfl,hown1⟩,h1.trans hk1 (by simp [Value.ownBlock])⟩
def KN (W0:World) (F:Nat) (lb:Array Value) (p:ByteArray→Bool):Prop:=∀ (w:World) (x:ByteArray),zb [] W0 w→Calls Tryz.prog F (#[.string x] ++ lb) w fun e w'=>e = .returned (.bool (!p x))∧zb [] w w'
theorem KU {W0 w:World}{F:Nat}{lb:Array Value}{p:ByteArray→Bool}(hp:KN W0 F lb p) (hk:zb [] W0 w) {a:Option Addr}{c:Nat}{l:List ByteArray}(h:xg w (.slice a l.length c) l) (hl:l.length≤1000000)
  (eg:∀ (args:Array Value) (w:World),(callFunc F args).run Tryz.prog w = .ok (.enter F args) w) :
  Calls Tryz.prog 60 #[.slice a l.length c,.func (.func F) #[] lb] w fun e w'=>((e = .returned (.int .i64 (-1))∧∀ x,x ∈ l→p x=true)∨∃ (j:Nat) (hj:j < l.length),e = .returned (.int .i64 j)∧p l[j]=false∧∀ x,x ∈ l.take j→p x=true)∧zb [] w w':=by
 have HP:=qI hp
 have H:=qI h
 have Jf:=qI hk
 have hlI:(l.length:Int)≤1000000:=by omega
 clear hp h hk
 go_enter func60,ntmps60
 go_wp2_with fail
 go_loopw [5,8] (fun _ idx wr=>∃ k:Nat,idx = .int .i64 k∧k≤l.length∧(∀ x,x ∈ l.take k→p x=true)∧zb [] w wr) (fun _ idx _=>l.length - (intOf idx).toNat)
 case atStart=>exact⟨0,rfl,Nat.zero_le _,by simp,zb.refl _ _⟩
 case round=>
  obtain⟨k,rfl,hk,hall,hkr⟩:=hrel
  have Gn:=qI hall
  have Gk:=qI hkr
  clear hall hkr
  rcases Nat.lt_or_ge k l.length with hlt | hlt
  ·have hltI:(k:Int) < l.length:=by omega
   obtain⟨g,o,rfl,q0⟩:=(H.o.kept0 Gk.o).at hlt
   have hcall:=HP.o wr l[k] (Jf.o.then Gk.o)
   have HN:Hid (p l[k]=true→∀ x,x ∈ l.take (k + 1)→p x=true):=qI (fun h x hx=>by
    rw [List.take_succ_eq_append_getElem hlt,List.mem_append,List.mem_singleton] at hx
    rcases hx with hx | rfl
    ·exact Gn.o x hx
    ·exact h)
   have HJ:Hid (p l[k]=false→((∃ (j:Nat) (hj:j < l.length),Ending.returned (.int .i64 k) = .returned (.int .i64 j)∧p l[j]=false∧∀ x,x ∈ l.take j→p x=true))):=qI (fun h=>⟨k,hlt,rfl,h,Gn.o⟩)
   generalize l[k]=u at q0 hcall HN HJ
   have Gv:=qI hlt
   clear hlt
   cases hq:p u with
   | true=>
    rw [hq] at hcall
    have Mj:=qI (HN.o hq)
    go_wp2_with (go_at_fn F;refine hcall.mono ?_;rintro e w' ⟨rfl,hk2⟩;have Gb:=qI hk2;clear hk2)
    case roundEnd=>exact⟨⟨k + 1,by go_num,by have:=Gv.o;omega,Mj.o,Gk.o.then Gb.o⟩,by have:=Gv.o;simp [intOf];omega⟩
   | false=>
    rw [hq] at hcall
    have Mk:=qI (HJ.o hq)
    go_wp2_with (go_at_fn F;refine hcall.mono ?_;rintro e w' ⟨rfl,hk2⟩;have Gb:=qI hk2;clear hk2)
    go_ret
    exact⟨.inr Mk.o,Gk.o.then Gb.o⟩
  ·obtain rfl:k=l.length:=by omega
   go_wp2_with fail
   go_ret
   exact⟨.inl ⟨rfl,fun x hx=>Gn.o x (by rw [List.take_length];exact hx)⟩,Gk.o⟩
structure bt (p:ByteArray→Bool) (l xs:List ByteArray) (i j:Nat):Prop where
 len:xs.length=l.length
 done:xs.take i=(l.take j).filter p
 rest:∀ q,j≤q→xs[q]? = l[q]?
 lt:i < j
 le:j≤l.length
theorem bt.count {p:ByteArray→Bool}{l xs:List ByteArray}{i j:Nat}(h:bt p l xs i j):((l.take j).filter p).length=i:=by
 have h1:=congrArg List.length h.done
 rw [List.length_take] at h1
 have:=h.len;have:=h.lt;have:=h.le
 omega
theorem bt.start {p:ByteArray→Bool}{l:List ByteArray}{j:Nat}(hj:j < l.length) (h1:p l[j]=false) (h2:∀ x,x ∈ l.take j→p x=true):bt p l l j (j + 1):=
 ⟨rfl,by
  rw [List.take_succ_eq_append_getElem hj,List.filter_append,List.filter_eq_self.2 h2,List.filter_cons_of_neg (by simp [h1])]
  simp,fun _ _=>rfl,by omega,hj⟩
theorem bt.drop {p:ByteArray→Bool}{l xs:List ByteArray}{i j:Nat}(h:bt p l xs i j) (hj:j < l.length) (h1:p l[j]=false):bt p l xs i (j + 1):=
 ⟨h.len,by
  rw [List.take_succ_eq_append_getElem hj,List.filter_append,List.filter_cons_of_neg (by simp [h1]),h.done]
  simp,fun q hq=>h.rest q (by omega),by have:=h.lt;omega,hj⟩
theorem bt.keep {p:ByteArray→Bool}{l xs:List ByteArray}{i j:Nat}(h:bt p l xs i j) (hj:j < l.length) (h1:p l[j]=true):bt p l (xs.set i l[j]) (i + 1) (j + 1):=by
 have hlt:=h.lt
 have hlen:=h.len
 refine⟨by rw [List.length_set];exact hlen,?_,fun q hq=>?_,by omega,hj⟩
 ·have hi:i < (xs.set i l[j]).length:=by rw [List.length_set];omega
  rw [List.take_succ_eq_append_getElem hi,List.take_set_of_le (by omega),List.getElem_set_self,h.done,List.take_succ_eq_append_getElem hj,List.filter_append,List.filter_cons_of_pos h1]
  simp
 ·rw [List.getElem?_set_ne (by omega)]
  exact h.rest q (by omega)
theorem QB {W0 w:World}{F:Nat}{lb:Array Value}{p:ByteArray→Bool}(hp:KN W0 F lb p) (hk:zb [] W0 w) {a:Option Addr}{c B:Nat}{l:List ByteArray}(hB:W0.heap.size≤B) (h:w.ownsRow B 9 1 (.slice a l.length c) l.length (l.map Value.string)) (hl:l.length≤1000000)
  (eg:∀ (args:Array Value) (w:World),(callFunc F args).run Tryz.prog w = .ok (.enter F args) w) :
  Calls Tryz.prog 26 #[.slice a l.length c,.func (.func F) #[] lb] w fun e w'=>(∃ a2 c2,e = .returned (.slice a2 (l.filter p).length c2)∧xg w' (.slice a2 (l.filter p).length c2) (l.filter p))∧zb [] W0 w':=by
 have CI:=qI (KU hp hk (show xg w (.slice a l.length c) l from Slc.of_row h) hl eg)
 have HP:=qI hp
 have H:=qI h
 have Jf:=qI hk
 have hlI:(l.length:Int)≤1000000:=by omega
 clear hp h hk
 go_enter func26,ntmps26
 go_upto_region 2 with (go_at_call 60;refine CI.o.mono ?_;rintro e w1 ⟨hor,hk1⟩;have Gf:=qI hor;have Gc:=qI hk1;clear hor hk1;rcases Gf.o with ⟨rfl,hall⟩ | ⟨k0,hk0,rfl,hno,hall⟩)
 ·have HF:Hid (l.filter p=l):=qI (List.filter_eq_self.2 hall)
  clear hall Gf
  go_wp2_with fail
  go_ret
  rw [HF.o]
  exact⟨⟨_,_,rfl,Slc.of_row (zk H.o Gc.o (by simp))⟩,Jf.o.then Gc.o⟩
 ·have Ml:=qI (bt.start hk0 hno hall)
  obtain⟨g,rfl⟩:∃ g,a=some ⟨g,0,none⟩:=by
   rcases H.o.2 with ⟨-,h0⟩ | ⟨g,cap,cur,e,-⟩
   ·omega
   ·injection e with e1 e2 e3
    exact⟨g,e1⟩
  have Mm:=qI (zk H.o Gc.o (by simp))
  have Mb:Hid (W0.heap.size≤g):=qI (Nat.le_trans hB (H.o.lt g rfl).1)
  have hk0I:(k0:Int) < l.length:=by omega
  clear hall hno Gf
  have hne1:((k0:Int) == -1)=false:=beq_eq_false_iff_ne.2 (by omega)
  have Jo:Hid (zb [] W0 w1):=qI (Jf.o.then Gc.o)
  clear CI
  go_wp2_with fail
  go_loopw [5,6,7] (fun iv jv _ wr=>∃ (i j:Nat) (xs:List ByteArray),iv = .int .i64 i∧jv = .int .i64 j∧bt p l xs i j∧wr.ownsRow B 9 1 (.slice (some ⟨g,0,none⟩) l.length c) l.length (xs.map Value.string)∧zb [] W0 wr) (fun _ jv _ _=>l.length - (intOf jv).toNat)
  case atStart=>exact⟨k0,k0 + 1,l,rfl,by go_num,Ml.o,Mm.o,Jo.o⟩
  case round=>
   obtain⟨i,j,xs,rfl,rfl,hsw,how,hkr⟩:=hrel
   have Gh:=qI hsw
   have Gf:=qI how
   have Gk:=qI hkr
   clear hsw how hkr hne1 hk0I
   have hjl:=Gh.o.le
   have hij:=Gh.o.lt
   rcases Nat.lt_or_ge j l.length with hlt | hlt
   ·have hltI:(j:Int) < l.length:=by omega
    have q0:wr.cell? ⟨g,j,none⟩=some (.string l[j]):=by
     rw [Gf.o.cellAt j (by omega),List.getElem?_map,Gh.o.rest j (Nat.le_refl _),List.getElem?_eq_getElem hlt];rfl
    have hcall:=HP.o wr l[j] Gk.o
    have HD:=qI (Gh.o.drop hlt)
    have Mc:=qI (Gh.o.keep hlt)
    generalize l[j]=u at q0 hcall HD Mc
    have Gv:=qI hlt
    have hiI:(i:Int) < l.length:=by omega
    have Jg:Hid (i < l.length):=qI (by omega)
    clear hlt hjl hij
    cases hq:p u with
    | false=>
     rw [hq] at hcall
     go_wp2_with (go_at_fn F;refine hcall.mono ?_;rintro e w2 ⟨rfl,hk2⟩;have Gb:=qI hk2;clear hk2)
     case roundEnd=>exact⟨⟨i,j + 1,xs,rfl,by go_num,HD.o hq,zk Gf.o Gb.o (by simp),Gk.o.then Gb.o⟩,by have:=Gv.o;simp [intOf];omega⟩
    | true=>
     rw [hq] at hcall
     have q1:wr.cell? ⟨g,i,none⟩=some ((xs.map Value.string)[i]'(by rw [List.length_map,Gh.o.len];exact Jg.o)):=by
      rw [Gf.o.cellAt i (by have:=Jg.o;omega),List.getElem?_eq_getElem (by rw [List.length_map,Gh.o.len];exact Jg.o)]
     have q2:=Gf.o.frozenAt i
     generalize (xs.map Value.string)[i]'(by rw [List.length_map,Gh.o.len];exact Jg.o)=old at q1
     go_upto_region 9 with (go_at_fn F;refine hcall.mono ?_;rintro e w2 ⟨rfl,hk2⟩;have y1:=hk2.cell q1 (by simp);have Gw:=qI (zk Gf.o hk2 (by simp));have Gb:=qI (Gk.o.then hk2);clear hk2 q0 q1)
     have y2:=Gw.o.frozenAt i
     have Jp:Hid ((w2.setCell ⟨g,i,none⟩ (.string u)).ownsRow B 9 1 (.slice (some ⟨g,0,none⟩) l.length c) l.length ((xs.set i u).map Value.string)):=qI (by
      have h1:=(Gw.o.stored i (.string u)).1
      rw [List.map_set];exact h1)
     have Jq:Hid (zb [] W0 (w2.setCell ⟨g,i,none⟩ (.string u))):=qI (Gb.o.setCell (p:=⟨g,i,none⟩) (.inr Mb.o) _)
     go_wp2_with fail
     case roundEnd=>exact⟨⟨i + 1,j + 1,xs.set i u,by go_num,by go_num,Mc.o hq,Jp.o,Jq.o⟩,by have:=Gv.o;simp [intOf];omega⟩
   ·obtain rfl:j=l.length:=by omega
    have hct:=Gh.o.count
    rw [List.take_length] at hct
    have hdn:=Gh.o.done
    rw [List.take_length] at hdn
    have Jh:=qI hct
    have Mn:=qI hdn
    have hil:i < l.length:=hij
    have hiI:(i:Int) < l.length:=by omega
    have hcapI:l.length≤c:=by
     rcases Gf.o.2 with ⟨h1,-⟩ | ⟨g',cap,cur,e,-,-,hc,-⟩
     ·cases h1
     ·injection e with e1 e2 e3;omega
    have hcl:∀ ty,(Builtin.clear_ #[29] ty #[.slice (some ⟨g,i,none⟩) (l.length - i) (c - i)]).run Tryz.prog wr = .ok (.tuple #[]) (wr.setCells g i (List.replicate (l.length - i) (.string ByteArray.empty))):=
     fun ty=>Lib.run_clear_slice wr _ _ ty _ underlying29 zeroValue9 rfl rfl g i _ _ (by omega) (fun t ht=>by rw [Gf.o.cellAt (i + t) (by omega),List.getElem?_eq_getElem (by rw [List.length_map,Gh.o.len];omega)];rfl) (fun t ht=>Gf.o.frozenAt (i + t))
    obtain⟨⟨ys,hys,hyl,hyg⟩,-,hkz⟩:=zah (o:=i) (c:=List.replicate (l.length - i) (.string ByteArray.empty)) Gf.o rfl (by rw [List.length_replicate];omega)
    have Mo:Hid (Slc (wr.setCells g i (List.replicate (l.length - i) (.string ByteArray.empty))) 1 (.slice (some ⟨g,0,none⟩) i c) i ((l.filter p).map Value.string)):=qI (by
     have h1:=Slc.of_row hys
     have hxl:=Gh.o.len
     refine⟨by rw [List.length_map,Jh.o,Nat.mul_one],?_⟩
     rcases h1.2 with ⟨h2,-⟩ | ⟨h0,-⟩ | ⟨g',o',cap,h2,h3,h4,hr⟩
     ·cases h2
     ·omega
     ·simp only [Value.slice.injEq,Option.some.injEq,Addr.mk.injEq,and_true,true_and] at h2
      obtain⟨⟨rfl,rfl⟩,rfl⟩:=h2
      refine .inr (.inr ⟨g,0,c,rfl,by omega,h4,⟨fun j v hv=>hr.cells j v ?_,hr.lt⟩⟩)
      have hj:j < i:=by
       have:=(List.getElem?_eq_some_iff.1 hv).1
       rw [List.length_map,Jh.o] at this
       exact this
      rw [hyg j,if_neg (by omega),← hv,← Mn.o,List.map_take,List.getElem?_take,if_pos hj])
    have Mp:Hid (zb [] W0 (wr.setCells g i (List.replicate (l.length - i) (.string ByteArray.empty)))):=qI (Gk.o.trans hkz (by intro b hb;simp at hb;subst hb;exact .inr Mb.o))
    have hcI:(l.length:Int)≤c:=by omega
    have hicI:(i:Int)≤c:=by omega
    have hic:i≤c:=by omega
    have hne:c≠i:=by omega
    clear hys hyl hyg hkz hct hdn
    go_wp2_with fail
    go_ret
    rw [Jh.o]
    exact⟨⟨_,_,rfl,by unfold xg;rw [Jh.o];exact Mo.o⟩,Mp.o⟩
def zL (n:Nat) (v:V n) (l:List yh) (r:kf) (keys:List xT):List ByteArray:=if xo r=true∧zW n v l=true then r.keys.filter (yT n v l keys) else []
structure jA (w:World) (a:Option Addr) (c:Nat) (r:kf):Prop where
 txt:xg w (.slice a r.keys.length c) r.keys
 sizes:∀ k,k ∈ r.keys→k.size≤140737488355328
 few:r.keys.length≤1000000
theorem jA.kept0 {w w':World}{a:Option Addr}{c:Nat}{r:kf}(h:jA w a c r) (k:zb [] w w'):jA w' a c r:=⟨h.txt.kept0 k,h.sizes,h.few⟩
theorem noSign_any {n:Nat}{S:Nat→Prop}{w:World}{cs:List Value}{v:V n}{a:Option Addr}{c:Nat}{l:List yh}(h:Env n S w cs v a c l) (ht:ql w) (hks:xz w) (id:ByteArray) {a2:Option Addr}{c2:Nat}{keys:List xT}(hk:qo w (.slice a2 keys.length c2) keys)
  {g1 g2:Nat}(h1:w.heap[g1]? = some (.cells (vt cs a l.length c).toArray 28 (0,0))) (h2:w.heap[g2]? = some (.cells #[.slice a2 keys.length c2] 32 (0,0))) :
  Calls Tryz.prog 28 #[.string id,.pointer (some ⟨g1,0,none⟩),.pointer (some ⟨g2,0,none⟩)] w fun e w'=>e = .returned (.bool (!yT n v l keys id))∧zb [] w w':=by
 have CS:=J0 h ht hks id hk
 obtain⟨kd,nm,st,p1,i1,d1,p2,i2,d2,rfl⟩:=h.rep.conv
 have CS:Hid (Calls Tryz.prog 29 #[.agg #[.int .i64 kd,.int .i64 nm,.string st,.slice p1 i1 d1,.slice p2 i2 d2,.slice a l.length c],.string id,.slice a2 keys.length c2] w fun e w'=>e = .returned (.bool (yT n v l keys id))∧zb [] w w'):=CS
 have h1:w.heap[g1]? = some (.cells #[.int .i64 kd,.int .i64 nm,.string st,.slice p1 i1 d1,.slice p2 i2 d2,.slice a l.length c] 28 (0,0)):=h1
 clear h ht hks hk
 generalize yT n v l keys id=b at CS ⊢
 generalize l.length=m at CS h1
 generalize keys.length=kn at CS h2
 have c0:=za (o:=0) h1 rfl
 have c1:=za (o:=1) h1 rfl
 have c2':=za (o:=2) h1 rfl
 have c3:=za (o:=3) h1 rfl
 have c4:=za (o:=4) h1 rfl
 have c5:=za (o:=5) h1 rfl
 have k0:=za (o:=0) h2 rfl
 clear h1 h2
 go_enter func28,ntmps28
 go_wp2_with (go_at_call 29;refine CS.o.mono ?_;rintro e w1 ⟨rfl,hk⟩;have HK:=qI hk;clear hk)
 go_ret
 exact⟨rfl,HK.o⟩
theorem enterNoSign:∀ (args:Array Value) (w:World),(callFunc 28 args).run Tryz.prog w = .ok (.enter 28 args) w:=enters_of func28 (by kernel_rfl) rfl
theorem Zh {n:Nat}{S:Nat→Prop}{w:World}{cs:List Value}{v:V n}{a:Option Addr}{c:Nat}{l:List yh}(h:Env n S w cs v a c l) (ht:ql w) (hks:xz w) {r:kf}{ra:Option Addr}{rc:Nat}(hr:jA w ra rc r) {a2:Option Addr}{c2:Nat}{keys:List xT}(hk:qo w (.slice a2 keys.length c2) keys) :
  Calls Tryz.prog 12 #[.agg (vt cs a l.length c).toArray,.agg #[.slice ra r.keys.length rc,.int .i64 r.thr],.slice a2 keys.length c2] w fun e w'=>(∃ q d,e = .returned (.slice q (zL n v l r keys).length d)∧xg w' (.slice q (zL n v l r keys).length d) (zL n v l r keys))∧zb [] w w':=by
 obtain⟨kd,nm,st,p1,i1,d1,p2,i2,d2,rfl⟩:=h.rep.conv
 obtain⟨W1,Gd⟩:∃ W1,Hid (W1=((w.alloc (.cells #[.int .i64 kd,.int .i64 nm,.string st,.slice p1 i1 d1,.slice p2 i2 d2,.slice a l.length c] 28)).alloc (.cells #[.slice ra r.keys.length rc,.int .i64 r.thr] 31)).alloc (.cells #[.slice a2 keys.length c2] 32)):=⟨_,qI rfl⟩
 have Gc:Hid (zb [] w W1):=qI (by rw [Gd.o];exact (((zb.refl _ w).alloc _).alloc _).alloc _)
 have Gl:Hid (W1.heap[w.heap.size]? = some (.cells (vt [.int .i64 kd,.int .i64 nm,.string st,.slice p1 i1 d1,.slice p2 i2 d2] a l.length c).toArray 28 (0,0))):=qI (by rw [Gd.o];exact (((zb.refl [] _).alloc _).alloc _).heap (zd rfl) (by simp))
 have Ji:Hid (W1.heap[w.heap.size + 1]? = some (.cells #[.slice ra r.keys.length rc,.int .i64 r.thr] 31 (0,0))):=qI (by rw [Gd.o];exact ((zb.refl [] _).alloc _).heap (zd (by simp)) (by simp))
 have Jj:Hid (W1.heap[w.heap.size + 2]? = some (.cells #[.slice a2 keys.length c2] 32 (0,0))):=qI (by rw [Gd.o];exact zd (by simp))
 have HE:=qI (h.kept0 Gc.o)
 have HT:=qI (ht.kept0 Gc.o)
 have Md:=qI (hks.kept0 Gc.o)
 have Gs:=qI (hr.kept0 Gc.o)
 have Me:=qI (hk.kept0 Gc.o)
 have CR:=qI (Qd Gs.o.txt Gs.o.sizes (by have:=Gs.o.few;omega))
 have CE:Hid (∀ w2,zb [] W1 w2→Calls Tryz.prog 25 #[.agg #[.int .i64 kd,.int .i64 nm,.string st,.slice p1 i1 d1,.slice p2 i2 d2,.slice a l.length c]] w2 fun e w'=>e = .returned (.bool (zW n v l))∧zb [] w2 w'):=qI (fun w2 hk=>by have h1:=bp (HE.o.kept0 hk) (HT.o.kept0 hk);exact h1)
 have Jk:Hid (KN W1 28 #[.pointer (some ⟨w.heap.size,0,none⟩),.pointer (some ⟨w.heap.size + 2,0,none⟩)] (yT n v l keys)):=qI (fun w2 x hk=>by
  have h1:=noSign_any (HE.o.kept0 hk) (HT.o.kept0 hk) (Md.o.kept0 hk) x (Me.o.kept0 hk) (hk.heap Gl.o (by simp)) (hk.heap Jj.o (by simp))
  exact h1)
 have HV:Hid (zL n v l r keys=if xo r=true∧zW n v l=true then r.keys.filter (yT n v l keys) else []):=qI (by unfold zL;rfl)
 have Gp:=qI Gs.o.few
 have CCL:Hid (∀ w2,zb [] W1 w2→_):=qI (fun w2 (hk:zb [] W1 w2)=>KL (Gs.o.txt.kept0 hk) Gp.o)
 clear h ht hks hr hk HE HT Md Me Gs
 generalize zL n v l r keys=res at HV ⊢
 generalize zW n v l=M at CE HV
 generalize yT n v l keys=p at Jk HV
 generalize hrk:r.keys=ks at Gd Ji CR HV Gp CCL ⊢
 generalize xo r=R at CR HV
 have Gl:Hid (W1.heap[w.heap.size]? = some (.cells #[.int .i64 kd,.int .i64 nm,.string st,.slice p1 i1 d1,.slice p2 i2 d2,.slice a l.length c] 28 (0,0))):=qI Gl.o
 generalize l.length=m at Gd Gl CE ⊢
 generalize keys.length=kn at Gd Jj ⊢
 clear hrk
 generalize r.thr=th at Gd Ji CR ⊢
 have c0:=za (o:=0) Gl.o rfl
 have c1:=za (o:=1) Gl.o rfl
 have c2':=za (o:=2) Gl.o rfl
 have c3:=za (o:=3) Gl.o rfl
 have c4:=za (o:=4) Gl.o rfl
 have c5:=za (o:=5) Gl.o rfl
 have r0:=za (o:=0) Ji.o rfl
 have r1:=za (o:=1) Ji.o rfl
 show Calls _ _ #[.agg #[.int .i64 kd,.int .i64 nm,.string st,.slice p1 i1 d1,.slice p2 i2 d2,.slice a m c],.agg #[.slice ra ks.length rc,.int .i64 th],.slice a2 kn c2] _ _
 cases R with
 | false=>
  have HR:Hid (res=[]):=qI (by rw [HV.o,if_neg (by simp)])
  clear HV CCL Jk CE
  go_enter func12,ntmps12
  go_upto_region 1 with fail
  change Code.wp _ _ _ _ (((w.alloc (.cells #[.int .i64 kd,.int .i64 nm,.string st,.slice p1 i1 d1,.slice p2 i2 d2,.slice a m c] 28)).alloc (.cells #[.slice ra ks.length rc,.int .i64 th] 31)).alloc (.cells #[.slice a2 kn c2] 32))
  rw [← Gd.o]
  go_wp2_with (go_at_call 24;refine CR.o.mono ?_;rintro e w2 ⟨rfl,hk2⟩;have Gb:=qI hk2;clear hk2)
  go_ret
  rw [HR.o]
  exact⟨⟨none,0,rfl,xn _ _⟩,Gc.o.then Gb.o⟩
 | true=>
  cases M with
  | false=>
   have HR:Hid (res=[]):=qI (by rw [HV.o,if_neg (by simp)])
   clear HV CCL Jk
   go_enter func12,ntmps12
   go_upto_region 1 with fail
   change Code.wp _ _ _ _ (((w.alloc (.cells #[.int .i64 kd,.int .i64 nm,.string st,.slice p1 i1 d1,.slice p2 i2 d2,.slice a m c] 28)).alloc (.cells #[.slice ra ks.length rc,.int .i64 th] 31)).alloc (.cells #[.slice a2 kn c2] 32))
   rw [← Gd.o]
   go_wp2_with first
    | (go_at_call 24;refine CR.o.mono ?_;rintro e w2 ⟨rfl,hk2⟩;have y0:=hk2.cell c0 (by simp);have y1:=hk2.cell c1 (by simp);have y2:=hk2.cell c2' (by simp);have y3:=hk2.cell c3 (by simp);have y4:=hk2.cell c4 (by simp);have y5:=hk2.cell c5 (by simp);have Gb:=qI hk2;clear hk2 c0 c1 c2' c3 c4 c5)
    | (go_at_call 25;refine (CE.o _ Gb.o).mono ?_;rintro e w3 ⟨rfl,hk3⟩;have Gm:=qI hk3;clear hk3)
   go_ret
   rw [HR.o]
   exact⟨⟨none,0,rfl,xn _ _⟩,Gc.o.then (Gb.o.then Gm.o)⟩
  | true=>
   have HR:Hid (res=ks.filter p):=qI (by rw [HV.o,if_pos (by simp)])
   clear HV
   go_enter func12,ntmps12
   go_upto_region 1 with fail
   change Code.wp _ _ _ _ (((w.alloc (.cells #[.int .i64 kd,.int .i64 nm,.string st,.slice p1 i1 d1,.slice p2 i2 d2,.slice a m c] 28)).alloc (.cells #[.slice ra ks.length rc,.int .i64 th] 31)).alloc (.cells #[.slice a2 kn c2] 32))
   rw [← Gd.o]
   go_upto_region 3 with first
    | (go_at_call 24;refine CR.o.mono ?_;rintro e w2 ⟨rfl,hk2⟩;have y0:=hk2.cell c0 (by simp);have y1:=hk2.cell c1 (by simp);have y2:=hk2.cell c2' (by simp);have y3:=hk2.cell c3 (by simp);have y4:=hk2.cell c4 (by simp);have y5:=hk2.cell c5 (by simp);have z0:=hk2.cell r0 (by simp);have z1:=hk2.cell r1 (by simp);have Gb:=qI hk2;clear hk2 c0 c1 c2' c3 c4 c5 r0 r1)
    | (go_at_call 25;refine (CE.o _ Gb.o).mono ?_;rintro e w3 ⟨rfl,hk3⟩;have x0:=hk3.cell z0 (by simp);have Gm:=qI (Gb.o.then hk3);clear hk3 y0 y1 y2 y3 y4 y5 z0 z1)
   go_wp2_with first
    | (go_at_call 27;refine (CCL.o _ Gm.o).mono ?_;rintro e w4 ⟨⟨a4,c4,rfl,ho4⟩,hk4⟩;have Mq:=qI ho4;have Jr:=qI (Gm.o.then hk4);clear hk4 ho4)
    | (go_at_call 26;refine (QB Jk.o Jr.o Gm.o.size Mq.o Gp.o enterNoSign).mono ?_;rintro e w5 ⟨⟨a5,c5,rfl,ht5⟩,hk5⟩;have Mr:=qI ht5;have Jl:=qI hk5;clear hk5 ht5)
   go_ret
   rw [HR.o]
   exact⟨⟨_,_,rfl,Mr.o⟩,Gc.o.then Jl.o⟩
attribute [local go_sem] Oper.semAt_some
theorem YT (j:Nat) (m:List UInt8):(yD j m).one.rev.length=8∧(yD j m).one.oth.length=8∧(yD j m).way.length=1∧yH (yD j m).one.rev∧yH (yD j m).one.oth∧yH (yD j m).way:=
 ⟨by simp [yD,jd],by simp [yD,jd],rfl,(signL_32 _ _ _ _).1,(signL_32 _ _ _ _).2,fun x hx=>by
  simp only [yD,List.mem_singleton] at hx
  subst hx
  unfold Kk
  split <;> exact qX _ _ _⟩
theorem vz (j:Nat) (m:List UInt8):(xE (yD j m)).length=548:=by
 obtain⟨h1,h2,h3,h4,h5,h6⟩:=YT j m
 unfold xE
 rw [List.length_append,List.length_append,yN,Y1 h4 h5 (by omega),h1,h6.flat,h3]
def Y3 (j:Nat) (m:List UInt8):yh:=⟨yu (k8 xB),xU (xE (yD j m))⟩
theorem tySigs:yR Tryz.prog 26 40 2 32 (.agg #[.string ByteArray.empty,.string ByteArray.empty]):=⟨underlying26,by kernel_rfl,rfl,by decide⟩
theorem rows_one (l:List yh):∀ u ∈ xV l,u.oneCell'=true:=by
 intro u hu
 unfold xV at hu
 obtain⟨x,-,hx⟩:=List.mem_flatMap.1 hu
 simp only [yh.enc,List.mem_cons,List.not_mem_nil,or_false] at hx
 rcases hx with rfl | rfl <;> rfl
@[go_sem] theorem eqlNilRows (w:World) (a:Option Addr) (n c:Nat):(binOp .eql 26 (.slice a n c) (.slice none 0 0)).run Tryz.prog w = .ok (.bool a.isNone) w:=Lib.run_eql_slice_nil w _ _ a n c 0 0 underlying26
theorem JI {w:World}{v:Value}{l:List yh}(h:xZ w v l) (hl:l.length≤1000000) :
  Calls Tryz.prog 42 #[v] w fun e w'=>(∃ a c,e = .returned (.slice a l.length c)∧w'.ownsRow w.heap.size 40 2 (.slice a l.length c) l.length (xV l))∧zb [] w w':=by
 rcases h.2 with ⟨rfl,h0⟩ | h2
 ·have:l=[]:=List.eq_nil_of_length_eq_zero h0
  subst this
  go_enter func42,ntmps42
  go_wp2
  go_ret
  exact⟨⟨_,_,rfl,World.ownsRow_nil _ _ _ _⟩,zb.refl _ _⟩
 ·obtain⟨ad,cap,rfl⟩:∃ ad cap,v = .slice (some ad) l.length cap:=by
   rcases h2 with ⟨h0,a,c,rfl,_⟩ | ⟨g,o,c,rfl,_⟩
   ·exact⟨a,c,by rw [h0]⟩
   ·exact⟨_,_,rfl⟩
  have h1:=(zb.refl [] w).alloc (.cells #[] 40)
  have hown:=jT (size:=2) (base:=w.heap.size) (t:=40) w rfl (Nat.le_refl _)
  have hsrc:=Slc.kept0 h h1
  go_enter func42,ntmps42
  go_wp2_with (at_builtin;refine zj tySigs hown hsrc (rows_one l) (by simp only [maxLen];omega) (by omega) (by simp) rfl _ _ rfl rfl rfl ?_;intro v' w1 hown1 hk1 _ hb1)
  rw [Nat.zero_add,List.nil_append] at hown1
  obtain⟨a',c',rfl,-,-⟩:=(Slc.of_row hown1).form
  go_ret
  exact⟨⟨_,_,rfl,hown1⟩,h1.trans hk1 (by simp [Value.ownBlock])⟩
def put6 (w:World) (g:Nat) (a b c d e f:Value):World:=(((((w.setCell ⟨g,0,none⟩ a).setCell ⟨g,1,none⟩ b).setCell ⟨g,2,none⟩ c).setCell ⟨g,3,none⟩ d).setCell ⟨g,4,none⟩ e).setCell ⟨g,5,none⟩ f
theorem put6_kept (w:World) (g:Nat) (a b c d e f:Value):zb [g] w (put6 w g a b c d e f):=((((((zb.refl [g] w).setCell (.inl (by simp)) _).setCell (.inl (by simp)) _).setCell (.inl (by simp)) _).setCell (.inl (by simp)) _).setCell (.inl (by simp)) _).setCell (.inl (by simp)) _
theorem put6_at {w:World}{g:Nat}{c0 c1 c2 c3 c4 c5:Value}{t:Nat}{z:Nat × Nat}(h:w.heap[g]? = some (.cells #[c0,c1,c2,c3,c4,c5] t z)) (a b c d e f:Value):(put6 w g a b c d e f).heap[g]? = some (.cells #[a,b,c,d,e,f] t z):=by
 unfold put6
 have h1:=ze (i:=0) (v:=a) (d:=#[a,c1,c2,c3,c4,c5]) h rfl
 have h2:=ze (i:=1) (v:=b) (d:=#[a,b,c2,c3,c4,c5]) h1 rfl
 have h3:=ze (i:=2) (v:=c) (d:=#[a,b,c,c3,c4,c5]) h2 rfl
 have h4:=ze (i:=3) (v:=d) (d:=#[a,b,c,d,c4,c5]) h3 rfl
 have h5:=ze (i:=4) (v:=e) (d:=#[a,b,c,d,e,c5]) h4 rfl
 exact ze (i:=5) (v:=f) (d:=#[a,b,c,d,e,f]) h5 rfl
abbrev ZB (w:World) (g:Nat) (k m:Int) (s:ByteArray) (a b c:Value):Prop:=w.heap[g]? = some (.cells #[.int .i64 k,.int .i64 m,.string s,a,b,c] 28 (0,0))
theorem rowsL_snoc (l:List yh) (r:yh):xV (l ++ [r])=xV l ++ r.enc:=by simp [xV]
theorem Slc.mapped {w w':World}{size n mb:Nat}{v:Value}{xs:List Value}(h:Slc w size v n xs) (hz:0 < size) (hm:kind w mb=1) (k:zb [mb] w w'):Slc w' size v n xs:=Slc.kept h k (fun g hg hx=>by
 rw [List.mem_singleton] at hx
 subst hx
 obtain⟨a,c,rfl,-,-⟩:=h.form
 refine Zj h (fun e=>?_) hg hm
 have h1:=h.1
 rw [e] at h1
 have h2:=(kV hg).1
 have:0 < n * size:=Nat.mul_pos h2 hz
 simp at h1
 omega)
theorem vh.lt {w:World}{sg:Nat}{sa la:Option Addr}{sc lc mb j:Nat}(h:vh w sg sa la sc lc mb j):mb < w.heap.size∧kind w mb=1:=by
 obtain⟨_,_,h1,-⟩:=h
 exact⟨h1.used.lt,h1.used.kind⟩
set_option maxRecDepth 100000 in
theorem sgnSign_any {W0:World}(ht0:ql W0) (hks0:xz W0) {n:Nat}{S:Nat→Prop}{w:World}(hk0:zb [] W0 w) {cs:List Value}{v:V n}{a:Option Addr}{c:Nat}{l:List yh}(h:Env n S w cs v a c l) (hm:zW n v l=true) (hl:l.length≤2) {sg:Nat}{sa la:Option Addr}{sc lc mb j:Nat}(hs:vh w sg sa la sc lc mb j) (hmb:W0.heap.size≤mb) (hS:¬ S mb) (hj:j < 2) :
  Calls Tryz.prog 17 #[.agg (vt cs a l.length c).toArray,.pointer (some ⟨sg,0,none⟩)] w fun e w'=>(∃ kd nm st p1 i1 d1 p2 i2 d2 a' c',e = .returned (.tuple #[.agg #[.int .i64 kd,.int .i64 nm,.string st,.slice p1 i1 d1,.slice p2 i2 d2,.slice a' (l.length + 1) c'],.int .i64 0])∧Env n (fun g=>w.heap.size≤g) w' [.int .i64 kd,.int .i64 nm,.string st,.slice p1 i1 d1,.slice p2 i2 d2] v a' c' (l ++ [Y3 j (qi n v l)]))∧vh w' sg sa la sc lc mb (j + 1)∧zb [mb] w w':=by
 obtain⟨kd,nm,st,p1,i1,d1,p2,i2,d2,rfl⟩:=h.rep.conv
 obtain⟨W1,Gd⟩:∃ W1,Hid (W1=(w.alloc (.cells #[.int .i64 kd,.int .i64 nm,.string st,.slice p1 i1 d1,.slice p2 i2 d2,.slice a l.length c] 28)).alloc (.cells #[.int .i64 0,.int .i64 0,.string ⟨#[]⟩,.slice none 0 0,.slice none 0 0,.slice none 0 0] 28)):=⟨_,qI rfl⟩
 have Gc:Hid (zb [] w W1):=qI (by rw [Gd.o];exact ((zb.refl _ w).alloc _).alloc _)
 have Gg:Hid (ZB W1 w.heap.size kd nm st (.slice p1 i1 d1) (.slice p2 i2 d2) (.slice a l.length c)):=qI (by rw [Gd.o];exact ((zb.refl [] _).alloc _).heap (zd rfl) (by simp))
 have Js:Hid (ZB W1 (w.heap.size + 1) 0 0 ⟨#[]⟩ (.slice none 0 0) (.slice none 0 0) (.slice none 0 0)):=qI (by rw [Gd.o];exact zd (by simp))
 have Jt:Hid (∀ w2,zb [mb] W1 w2→ql w2∧xz w2):=qI (fun w2 hk=>by
  have h1:zb [] W0 w2:=(hk0.then Gc.o).trans hk (by intro i hi;rw [List.mem_singleton] at hi;subst hi;exact .inr hmb)
  exact⟨ht0.kept0 h1,hks0.kept0 h1⟩)
 have HE:=qI (h.kept0 Gc.o)
 have Mf:=qI (hs.kept0 Gc.o)
 have Ms:=qI hs
 have Mg:=qI hs.lt.1
 have Mt:Hid (kind W1 mb=1):=qI Mf.o.lt.2
 have Ju:=qI (Jt.o W1 (zb.refl _ _))
 have CM:Hid (Calls Tryz.prog 25 #[.agg #[.int .i64 kd,.int .i64 nm,.string st,.slice p1 i1 d1,.slice p2 i2 d2,.slice a l.length c]] W1 fun e w'=>e = .returned (.bool true)∧zb [] W1 w'):=qI (by have h1:=bp HE.o Ju.o.1;rw [hm] at h1;exact h1)
 have CB:Hid (∀ w2,zb [] W1 w2→Calls Tryz.prog 40 #[.agg #[.int .i64 kd,.int .i64 nm,.string st,.slice p1 i1 d1,.slice p2 i2 d2,.slice a l.length c]] w2 fun e w'=>(∃ q d,e = .returned (.slice q (qi n v l).length d)∧zp w' (.slice q (qi n v l).length d) (qi n v l))∧zb [] w2 w'):=qI (fun w2 hk=>by have h1:=body_any (HE.o.kept0 hk) (Ju.o.1.kept0 hk);exact h1)
 have Mh:Hid ((qi n v l).length≤1048576):=qI (zai n v l)
 generalize hB:qi n v l=B at CB Mh ⊢
 have CS:Hid (∀ w2 q d,zb [] W1 w2→zp w2 (.slice q B.length d) B→Calls Tryz.prog 39 #[.pointer (some ⟨sg,0,none⟩),.slice q B.length d] w2 _):=qI (fun w2 q d hk hb=>sgrSign_any (Mf.o.kept0 hk) hj hb Mh.o (Ju.o.2.kept0 hk))
 obtain⟨f1,f2,f3,f4,f5,f6⟩:=YT j B
 have CE:Hid (∀ w2 a1 c1 a2 c2 a3 c3,Slc w2 32 (.slice a1 8 c1) 8 ((yD j B).one.rev.flatten.map bv)→Slc w2 32 (.slice a2 8 c2) 8 ((yD j B).one.oth.flatten.map bv)→Slc w2 32 (.slice a3 1 c3) 1 ((yD j B).way.flatten.map bv)→Calls Tryz.prog 41 #[.agg #[.int .i64 j,.slice a1 8 c1,.slice a2 8 c2,.slice a3 1 c3]] w2 fun e w'=>(∃ a c,e = .returned (.tuple #[.slice a 548 c,.int .i64 0])∧zp w' (.slice a 548 c) (xE (yD j B)))∧zb [] w2 w'):=qI (fun w2 a1 c1 a2 c2 a3 c3 h1 h2 h3=>by
  have h9:=JO (s:=yD j B) (by show j≤_;omega) f1 f2 f3 (by decide) f4 f5 f6 h1 h2 h3 (by decide)
  rw [vz] at h9
  exact h9)
 have CC:Hid (∀ w2,zb [mb] W1 w2→Calls Tryz.prog 42 #[.slice a l.length c] w2 _):=qI (fun w2 hk=>JI (Slc.mapped HE.o.rows (by decide) Mt.o hk) (by omega))
 have CP:Hid (∀ w2,vh w2 sg sa la sc lc mb (j + 1)→Calls Tryz.prog 19 #[.pointer (some ⟨sg,0,none⟩)] w2 fun e w'=>e = .returned (.agg (yi (k8 xB)))∧zb [] w2 w'):=qI (fun w2 h1=>Kt h1.key (yP _ _))
 have CI:Hid (∀ w2,zb [mb] W1 w2→Calls Tryz.prog 43 #[.agg (yi (k8 xB))] w2 fun e w'=>e = .returned (.string (yu (k8 xB)))∧zb [] w2 w'):=qI (fun w2 h1=>YU (k8 xB) (by constructor <;> decide) (yP _ _) w2 (Jt.o w2 h1).1 (Jt.o w2 h1).2)
 have CX:Hid (∀ w2 q d,zp w2 (.slice q 548 d) (xE (yD j B))→Calls Tryz.prog 44 #[.slice q 548 d] w2 fun e w'=>e = .returned (.string (xU (xE (yD j B))))∧zb [] w2 w'):=qI (fun w2 q d h1=>by
  have hl5:=vz j B
  have h9:=QH (w:=w2) (a:=q) (c:=d) (l:=xE (yD j B)) (by rw [hl5];exact h1) (by rw [hl5];decide) (by intro e;rw [e] at hl5;cases hl5)
  rw [hl5] at h9
  exact h9)
 have CV:Hid (∀ w2,zb [mb] W1 w2→Calls Tryz.prog 45 #[.agg #[.int .i64 kd,.int .i64 nm,.string st,.slice p1 i1 d1,.slice p2 i2 d2]] w2 fun e w'=>(∃ kd nm st p1 i1 d1 p2 i2 d2,e = .returned (.agg #[.int .i64 kd,.int .i64 nm,.string st,.slice p1 i1 d1,.slice p2 i2 d2])∧Rep n (fun g=>w.heap.size≤g∧g≠w.heap.size + 1) w' [.int .i64 kd,.int .i64 nm,.string st,.slice p1 i1 d1,.slice p2 i2 d2] v)∧zb [] w2 w'):=qI (fun w2 hk=>by
  have h1:Rep n S w2 [.int .i64 kd,.int .i64 nm,.string st,.slice p1 i1 d1,.slice p2 i2 d2] v:=HE.o.rep.kept hk (by intro k hk;rw [List.mem_singleton] at hk;rw [hk];exact hS)
  refine (zap n v h1 HE.o.small).mono (fun e w' h9=>?_)
  obtain⟨⟨cs',rfl,ho⟩,hk'⟩:=h9
  have h2:=Rep.mono (T:=fun g=>w.heap.size≤g∧g≠w.heap.size + 1) ho.rep (fun g _ hg=>by
   have h3:=hk.size
   have h4:=lt_of_block Js.o
   exact⟨by omega,by omega⟩)
  obtain⟨k,m,s,p,i,c,q,j,d,rfl⟩:=h2.conv
  exact⟨⟨k,m,s,p,i,c,q,j,d,rfl,h2⟩,hk'⟩)
 have Gt:Hid (Y3 j B=⟨yu (k8 xB),xU (xE (yD j B))⟩):=qI rfl
 have Gx:Hid ((yu (k8 xB)).size=64∧(xU (xE (yD j B))).size=1096):=qI ⟨QT rfl,by rw [qW,vz]⟩
 have Mu:=qI hl
 have hlI:(l.length:Int)≤2:=by omega
 clear h hm hs hl f1 f2 f3 f4 f5 f6 ht0 hks0 hk0
 generalize xE (yD j B)=code at CE CX Gt Gx
 generalize xU code=hx at CX Gt Gx
 generalize yu (k8 xB)=idk at CI Gt Gx
 generalize Y3 j B=rw' at Gt ⊢
 generalize k8 xB=kk at CP CI
 generalize hml:l.length=m at Gd Gg CM CB CC hlI ⊢
 have HM:=qI hml
 clear hml
 have c0:=za (o:=0) Gg.o rfl
 have c1:=za (o:=1) Gg.o rfl
 have c2':=za (o:=2) Gg.o rfl
 have c3:=za (o:=3) Gg.o rfl
 have c4:=za (o:=4) Gg.o rfl
 have c5:=za (o:=5) Gg.o rfl
 show Calls _ _ #[.agg #[.int .i64 kd,.int .i64 nm,.string st,.slice p1 i1 d1,.slice p2 i2 d2,.slice a m c],.pointer (some ⟨sg,0,none⟩)] _ _
 go_enter func17,ntmps17
 go_upto_region 1 with fail
 change Code.wp _ _ _ _ ((w.alloc (.cells #[.int .i64 kd,.int .i64 nm,.string st,.slice p1 i1 d1,.slice p2 i2 d2,.slice a m c] 28)).alloc (.cells #[.int .i64 0,.int .i64 0,.string ⟨#[]⟩,.slice none 0 0,.slice none 0 0,.slice none 0 0] 28))
 rw [← Gd.o]
 go_upto_region 5 with (go_at_call 25;refine CM.o.mono ?_;rintro e w2 ⟨rfl,hk2⟩;have Gb:=qI hk2;have y0:=hk2.cell c0 (by simp);have y1:=hk2.cell c1 (by simp);have y2:=hk2.cell c2' (by simp);have y3:=hk2.cell c3 (by simp);have y4:=hk2.cell c4 (by simp);have y5:=hk2.cell c5 (by simp);clear hk2 c0 c1 c2' c3 c4 c5)
 have Gu:Hid (w.heap.size ∉ [mb]):=qI (by have:=Mg.o;simp;omega)
 go_upto_region 6 with first
  | (go_at_call 39;refine (CS.o _ _ _ Gm.o Jj.o).mono ?_;rintro e w4 ⟨⟨a1,e1,a2,e2,a3,e3,rfl,hs1,hs2,hs3⟩,hsj,hk4⟩;have Mv:=qI hs1;have Mw:=qI hs2;have Mx:=qI hs3;have Jv:=qI hsj;have Jr:Hid (zb [mb] W1 w4):=qI ((Gm.o.mono (by simp)).trans' hk4);clear hs1 hs2 hs3 hsj hk4)
  | (go_at_call 40;refine (CB.o _ Gb.o).mono ?_;rintro e w3 ⟨⟨q,d,rfl,hb3⟩,hk3⟩;have Jj:=qI hb3;have Gm:=qI (Gb.o.then hk3);clear hb3 hk3 y0 y1 y2 y3 y4 y5)
 obtain⟨W5,Jw⟩:∃ W5,Hid (W5=w4.alloc (.cells #[.int .i64 j,.slice a1 8 e1,.slice a2 8 e2,.slice a3 1 e3] 82)):=⟨_,qI rfl⟩
 have Gi:Hid (zb [] w4 W5):=qI (by rw [Jw.o];exact (zb.refl _ w4).alloc _)
 have Jm:Hid (Q6 W5 w4.heap.size j (.slice a1 8 e1) (.slice a2 8 e2) (.slice a3 1 e3)):=qI (by rw [Jw.o];exact zd rfl)
 change Code.wp _ _ _ _ (w4.alloc (.cells #[.int .i64 j,.slice a1 8 e1,.slice a2 8 e2,.slice a3 1 e3] 82))
 rw [← Jw.o]
 have Jl:Hid (zb [mb] W1 W5):=qI (Jr.o.then Gi.o)
 have Jx:=qI (Jv.o.kept0 Gi.o)
 have s0:=za (o:=0) Jm.o rfl
 have s1:=za (o:=1) Jm.o rfl
 have s2:=za (o:=2) Jm.o rfl
 have s3:=za (o:=3) Jm.o rfl
 have CE5:=qI (CE.o W5 a1 e1 a2 e2 a3 e3 (Slc.kept0 Mv.o Gi.o) (Slc.kept0 Mw.o Gi.o) (Slc.kept0 Mx.o Gi.o))
 go_upto_region 11 with (go_at_call 41;refine CE5.o.mono ?_;rintro e w6 ⟨⟨a6,c6,rfl,hb6⟩,hk6⟩;have My:=qI hb6;have Jn:Hid (zb [mb] W1 w6):=qI (Jl.o.then hk6);have Gy:=qI (Jx.o.kept0 hk6);have z5:=(Jl.o.then hk6).cell (za (o:=5) Gg.o rfl) Gu.o;clear hb6 hk6 s0 s1 s2 s3)
 go_upto_region 12 with first
  | (at_builtin;refine zj tySigs (m:=1) (news:=[.string idk,.string hx]) (zk Mi.o (Gj.o.alloc (.cells #[.string idk,.string hx] 40)) (by simp)) (zV w10 [.string idk,.string hx] 2 1 _ _ rfl rfl (by decide)) (by simp [Value.oneCell']) (by simp only [maxLen];omega) (by omega) (by have:=Gj.o.size;have:=Jy.o;simp;omega) rfl _ _ rfl rfl rfl ?_;intro v11 w11 hown hk11 _ _;obtain⟨a11,c11,rfl,-,-⟩:=(Slc.of_row hown).form;have Gz:=qI hown;have Ja:Hid (zb [] w6 w11):=qI ((Jb.o.then (Gj.o.alloc _)).trans hk11 (fun i hi=>.inr (Mi.o.lt i (Option.mem_toList.1 hi)).1));clear hown hk11)
  | (go_at_call 44;refine (CX.o _ _ _ (Slc.kept0 My.o (Jb.o.then Jc.o))).mono ?_;rintro e w10 ⟨rfl,hk10⟩;have Gj:=qI (Jc.o.then hk10);clear hk10)
  | (go_at_call 43;refine (CI.o _ (Mz.o.then Jd.o)).mono ?_;rintro e w9 ⟨rfl,hk9⟩;have Jc:=qI (Jd.o.then hk9);clear hk9)
  | (go_at_call 19;refine (CP.o _ Jz.o).mono ?_;rintro e w8 ⟨rfl,hk8⟩;have Jd:=qI hk8;clear hk8)
  | (go_at_call 42;refine (CC.o _ Jn.o).mono ?_;rintro e w7 ⟨⟨a7,c7,rfl,ho7⟩,hk7⟩;have Mi:=qI ho7;have Jb:=qI hk7;have Mz:Hid (zb [mb] W1 w7):=qI (Jn.o.then hk7);have Jz:=qI (Gy.o.kept0 hk7);have Jy:=qI hk7.size;clear ho7 hk7 z5)
 have Ga:Hid (zb [mb] W1 w11):=qI (Jn.o.then Ja.o)
 have Ya:Hid (w.heap.size + 1 ∉ [mb]):=qI (by have:=Mg.o;simp;omega)
 have x0:=Ga.o.cell (za (o:=0) Gg.o rfl) Gu.o
 have x1:=Ga.o.cell (za (o:=1) Gg.o rfl) Gu.o
 have x2:=Ga.o.cell (za (o:=2) Gg.o rfl) Gu.o
 have x3:=Ga.o.cell (za (o:=3) Gg.o rfl) Gu.o
 have x4:=Ga.o.cell (za (o:=4) Gg.o rfl) Gu.o
 go_wp2_with (go_at_call 45;refine (CV.o _ Ga.o).mono ?_;rintro e w12 ⟨⟨kd',nm',st',q1,j1,h1,q2,j2,h2,rfl,hrep⟩,hk12⟩;have Ma:=qI hrep;have Gq:=qI hk12;have Ge:=qI ((Ga.o.then hk12).heap Js.o Ya.o);have r0:=za (o:=0) Ge.o rfl;have r1:=za (o:=1) Ge.o rfl;have r2:=za (o:=2) Ge.o rfl;have r3:=za (o:=3) Ge.o rfl;have r4:=za (o:=4) Ge.o rfl;have r5:=za (o:=5) Ge.o rfl;have rz:∀ j,w12.frozen? ⟨w.heap.size + 1,j,none⟩=false:=fun j=>zh Ge.o;clear hrep hk12 x0 x1 x2 x3 x4)
 change bodyPost _ _ _ _ _ (put6 w12 (w.heap.size + 1) (.int .i64 kd') (.int .i64 nm') (.string st') (.slice q1 j1 h1) (.slice q2 j2 h2) (.slice a11 (m + 1) c11))
 have Je:=put6_kept w12 (w.heap.size + 1) (.int .i64 kd') (.int .i64 nm') (.string st') (.slice q1 j1 h1) (.slice q2 j2 h2) (.slice a11 (m + 1) c11)
 have Gr:=put6_at Ge.o (.int .i64 kd') (.int .i64 nm') (.string st') (.slice q1 j1 h1) (.slice q2 j2 h2) (.slice a11 (m + 1) c11)
 generalize put6 w12 (w.heap.size + 1) (.int .i64 kd') (.int .i64 nm') (.string st') (.slice q1 j1 h1) (.slice q2 j2 h2) (.slice a11 (m + 1) c11)=WF at Je Gr
 have y0:=za (o:=0) Gr rfl
 have y1:=za (o:=1) Gr rfl
 have y2:=za (o:=2) Gr rfl
 have y3:=za (o:=3) Gr rfl
 have y4:=za (o:=4) Gr rfl
 have y5:=za (o:=5) Gr rfl
 refine bodyPost_ret (v:=.tuple #[.agg #[.int .i64 kd',.int .i64 nm',.string st',.slice q1 j1 h1,.slice q2 j2 h2,.slice a11 (m + 1) c11],.int .i64 0]) (by simp [results,results17,go_sem,y0,y1,y2,y3,y4,y5]) rfl ?_
 have hw6:w.heap.size + 1 < w6.heap.size:=by have h3:=lt_of_block Js.o;have:=Jn.o.size;omega
 have hlen:(l ++ [rw']).length=m + 1:=by rw [List.length_append,HM.o];rfl
 refine⟨⟨kd',nm',st',q1,j1,h1,q2,j2,h2,a11,c11,rfl,?_,HE.o.small,HE.o.deep,?_,?_,?_⟩,Ms.o.high ((Gy.o.kept0 Ja.o).kept0 Gq.o) Je (by omega),?_⟩
 ·exact Ma.o.move Je (fun g _ hg=>⟨by rw [List.mem_singleton];exact hg.2,hg.1⟩)
 ·have h9:=Slc.of_row Gz.o
  unfold xZ
  rw [rowsL_snoc,hlen]
  have h8:(rw').enc=[.string idk,.string hx]:=by rw [Gt.o];rfl
  rw [h8]
  refine Slc.kept (Slc.kept0 h9 Gq.o) Je (fun g hg hx=>?_)
  rw [List.mem_singleton] at hx
  have:=(Gz.o.lt g (ye hg)).1
  omega
 ·intro r hr
  rcases List.mem_append.1 hr with h9 | h9
  ·exact HE.o.texts r h9
  ·rw [List.mem_singleton] at h9
   rw [h9,Gt.o]
   exact⟨by show idk.size≤_;have:=Gx.o.1;omega,by show hx.size≤_;have:=Gx.o.2;omega⟩
 ·have:=Mu.o;rw [hlen];have:=HM.o;omega
 ·exact (((Gc.o.mono (by simp)).trans' Ga.o).then Gq.o).trans Je (by intro b hb;rw [List.mem_singleton] at hb;subst hb;exact .inr (by omega))
end Go.Proofs.YtibnfbglanpoiaaGreatDoor

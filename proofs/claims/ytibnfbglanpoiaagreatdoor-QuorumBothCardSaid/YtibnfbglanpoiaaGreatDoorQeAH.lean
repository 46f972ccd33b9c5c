/- Parts of one proof, merged: XBD XBE XBF XBG XBU XBY. -/
import Derived.Test.YtibnfbglanpoiaaGreatDoorQeAG
set_option linter.all false
set_option maxHeartbeats 12800000
set_option maxRecDepth 100000
namespace Go.Proofs.YtibnfbglanpoiaaGreatDoor
open Go.Proofs.Tryz
open Go.RowKit
structure Za (p:ByteArray→Bool) (l xs:List ByteArray) (i j:Nat):Prop where
 len:xs.length=l.length
 done:xs.take i=(l.take j).filter p
 rest:∀ q,j≤q→xs[q]? = l[q]?
 lt:i<j
 le:j≤l.length
theorem Za.count {p:ByteArray→Bool}{l xs:List ByteArray}{i j:Nat}(h:Za p l xs i j):((l.take j).filter p).length=i:=by
 have h1:=congrArg List.length h.done
 rw [List.length_take] at h1
 have:=h.len;have:=h.lt;have:=h.le
 omega
theorem Za.start {p:ByteArray→Bool}{l:List ByteArray}{j:Nat}(hj:j<l.length) (h1:p l[j]=false) (h2:∀ x,x∈l.take j→p x=true):Za p l l j (j+1):=
 ⟨rfl,by
  rw [List.take_succ_eq_append_getElem hj,List.filter_append,List.filter_eq_self.2 h2,List.filter_cons_of_neg (by simp [h1])]
  simp,fun _ _=>rfl,Ws,hj⟩
theorem Za.drop {p:ByteArray→Bool}{l xs:List ByteArray}{i j:Nat}(h:Za p l xs i j) (hj:j<l.length) (h1:p l[j]=false):Za p l xs i (j+1):=
 ⟨h.len,by
  rw [List.take_succ_eq_append_getElem hj,List.filter_append,List.filter_cons_of_neg (by simp [h1]),h.done]
  simp,fun q hq=>h.rest q Ws,by have:=h.lt;omega,hj⟩
theorem Za.keep {p:ByteArray→Bool}{l xs:List ByteArray}{i j:Nat}(h:Za p l xs i j) (hj:j<l.length) (h1:p l[j]=true):Za p l (xs.set i l[j]) (i+1) (j+1):=by
 have hlt:=h.lt
 have hlen:=h.len
 refine⟨by rw [List.length_set];exact hlen,?_,fun q hq=>?_,Ws,hj⟩
 ·have hi:i<(xs.set i l[j]).length:=by rw [List.length_set];omega
  rw [List.take_succ_eq_append_getElem hi,List.take_set_of_le Ws,List.getElem_set_self,h.done,List.take_succ_eq_append_getElem hj,List.filter_append,List.filter_cons_of_pos h1]
  simp
 ·rw [List.getElem?_set_ne Ws]
  exact h.rest q Ws
theorem Kg {W0 w:World}{F:Nat}{lb:Array Value}{p:ByteArray→Bool}(hp:K6 W0 F lb p) (hk:zb [] W0 w) {a:Option Addr}{c B:Nat}{l:List ByteArray}(hB:W0.heap.size≤B) (h:w.ownsRow B 9 1 (.slice a l.length c) l.length (l.map Value.string)) (hl:l.length≤1000000)
  (eg:∀ (args:Array Value) (w:World),(callFunc F args).run Tryz.prog w = .ok (.enter F args) w) :
  Calls Tryz.prog 26 #[.slice a l.length c,.func (.func F) #[] lb] w fun e w'=>(∃ a2 c2,e = .returned (.slice a2 (l.filter p).length c2)∧xJ w' (.slice a2 (l.filter p).length c2) (l.filter p))∧zb [] W0 w':=by
 have CI:=qI (K2 hp hk (show xJ w (.slice a l.length c) l from Slc.of_row h) hl eg)
 have HP:=qI hp
 have H:=qI h
 have Gl:=qI hk
 have hlI:(l.length:Int)≤1000000:=Ws
 clear hp h hk
 go_enter func26,ntmps26
 go_upto_region 2 with (go_at_call 60;refine CI.o.mono ?_;rintro e w1 ⟨hor,hk1⟩;have Gf:=qI hor;have Ga:=qI hk1;clear hor hk1;rcases Gf.o with ⟨rfl,hall⟩ | ⟨k0,hk0,rfl,hno,hall⟩)
 ·have HF:Hid (l.filter p=l):=qI (List.filter_eq_self.2 hall)
  clear hall Gf
  go_wp2_with fail
  go_ret
  rw [HF.o]
  exact⟨⟨_,_,rfl,Slc.of_row (zo H.o Ga.o Wz)⟩,Gl.o.then Ga.o⟩
 ·have Jk:=qI (Za.start hk0 hno hall)
  obtain⟨g,rfl⟩:∃ g,a=some ⟨g,0,none⟩:=by
   rcases H.o.2 with ⟨-,h0⟩ | ⟨g,cap,cur,e,-⟩
   ·omega
   ·injection e with e1 e2 e3
    exact⟨g,e1⟩
  have Jl:=qI (zo H.o Ga.o Wz)
  have Je:Hid (W0.heap.size≤g):=qI (Nat.le_trans hB (H.o.lt g rfl).1)
  have hk0I:(k0:Int)<l.length:=Ws
  clear hall hno Gf
  have hne1:((k0:Int) == -1)=false:=beq_eq_false_iff_ne.2 Ws
  have Gx:Hid (zb [] W0 w1):=qI (Gl.o.then Ga.o)
  clear CI
  go_wp2_with fail
  go_loopw [5,6,7] (fun iv jv _ wr=>∃ (i j:Nat) (xs:List ByteArray),iv = .int .i64 i∧jv = .int .i64 j∧Za p l xs i j∧wr.ownsRow B 9 1 (.slice (some ⟨g,0,none⟩) l.length c) l.length (xs.map Value.string)∧zb [] W0 wr) (fun _ jv _ _=>l.length-(intOf jv).toNat)
  case atStart=>exact⟨k0,k0+1,l,rfl,by go_num,Jk.o,Jl.o,Gx.o⟩
  case round=>
   obtain⟨i,j,xs,rfl,rfl,hsw,how,hkr⟩:=hrel
   have Gg:=qI hsw
   have Gf:=qI how
   have Gs:=qI hkr
   clear hsw how hkr hne1 hk0I
   have hjl:=Gg.o.le
   have hij:=Gg.o.lt
   rcases Nat.lt_or_ge j l.length with hlt | hlt
   ·have hltI:(j:Int)<l.length:=by omega
    have q0:wr.cell? ⟨g,j,none⟩=some (.string l[j]):=by
     rw [Gf.o.cellAt j Ws,List.getElem?_map,Gg.o.rest j (Nat.le_refl _),List.getElem?_eq_getElem hlt];rfl
    have hcall:=HP.o wr l[j] Gs.o
    have HD:=qI (Gg.o.drop hlt)
    have Jf:=qI (Gg.o.keep hlt)
    generalize l[j]=u at q0 hcall HD Jf
    have Jg:=qI hlt
    have hiI:(i:Int)<l.length:=Ws
    have Gt:Hid (i<l.length):=qI Ws
    clear hlt hjl hij
    cases hq:p u with
    | false=>
     rw [hq] at hcall
     go_wp2_with (go_at_fn F;refine hcall.mh ?_;rintro e w2 rfl Gd)
     case roundEnd=>exact⟨⟨i,j+1,xs,rfl,by go_num,HD.o hq,zo Gf.o Gd.o Wz,Gs.o.then Gd.o⟩,by have:=Jg.o;simp [intOf];omega⟩
    | true=>
     rw [hq] at hcall
     have q1:wr.cell? ⟨g,i,none⟩=some ((xs.map Value.string)[i]'(by rw [List.length_map,Gg.o.len];exact Gt.o)):=by
      rw [Gf.o.cellAt i (by have:=Gt.o;omega),List.getElem?_eq_getElem (by rw [List.length_map,Gg.o.len];exact Gt.o)]
     have q2:=Gf.o.frozenAt i
     generalize (xs.map Value.string)[i]'(by rw [List.length_map,Gg.o.len];exact Gt.o)=old at q1
     go_upto_region 9 with (go_at_fn F;refine hcall.mono ?_;rintro e w2 ⟨rfl,hk2⟩;have y1:=hk2.cell q1 Wz;have Gq:=qI (zo Gf.o hk2 Wz);have Gd:=qI (Gs.o.then hk2);clear hk2 q0 q1)
     have y2:=Gq.o.frozenAt i
     have Gy:Hid ((w2.setCell ⟨g,i,none⟩ (.string u)).ownsRow B 9 1 (.slice (some ⟨g,0,none⟩) l.length c) l.length ((xs.set i u).map Value.string)):=qI (by
      have h1:=(Gq.o.stored i (.string u)).1
      rw [List.map_set];exact h1)
     have Gz:Hid (zb [] W0 (w2.setCell ⟨g,i,none⟩ (.string u))):=qI (Gd.o.setCell (p:=⟨g,i,none⟩) (.inr Je.o) _)
     go_wp2_with fail
     case roundEnd=>exact⟨⟨i+1,j+1,xs.set i u,by go_num,by go_num,Jf.o hq,Gy.o,Gz.o⟩,by have:=Jg.o;simp [intOf];omega⟩
   ·obtain rfl:j=l.length:=by omega
    have hct:=Gg.o.count
    rw [List.take_length] at hct
    have hdn:=Gg.o.done
    rw [List.take_length] at hdn
    have Gu:=qI hct
    have Jm:=qI hdn
    have hil:i<l.length:=hij
    have hiI:(i:Int)<l.length:=Ws
    have hcapI:l.length≤c:=by
     rcases Gf.o.2 with ⟨h1,-⟩ | ⟨g',cap,cur,e,-,-,hc,-⟩
     ·cases h1
     ·injection e with e1 e2 e3;omega
    have hcl:∀ ty,(Builtin.clear_ #[29] ty #[.slice (some ⟨g,i,none⟩) (l.length-i) (c-i)]).run Tryz.prog wr = .ok (.tuple #[]) (wr.setCells g i (List.replicate (l.length-i) (.string ByteArray.empty))):=
     fun ty=>Lib.run_clear_slice wr _ _ ty _ underlying29 zeroValue9 rfl rfl g i _ _ Ws (fun t ht=>by rw [Gf.o.cellAt (i+t) Ws,List.getElem?_eq_getElem (by rw [List.length_map,Gg.o.len];omega)];rfl) (fun t ht=>Gf.o.frozenAt (i+t))
    obtain⟨⟨ys,hys,hyl,hyg⟩,-,hkz⟩:=row_cells (o:=i) (c:=List.replicate (l.length - i) (.string ByteArray.empty)) Gf.o rfl (by rw [List.length_replicate];omega)
    have Jn:Hid (Slc (wr.setCells g i (List.replicate (l.length-i) (.string ByteArray.empty))) 1 (.slice (some ⟨g,0,none⟩) i c) i ((l.filter p).map Value.string)):=qI (by
     have h1:=Slc.of_row hys
     have hxl:=Gg.o.len
     refine⟨by rw [List.length_map,Gu.o,Nat.mul_one],?_⟩
     rcases h1.2 with ⟨h2,-⟩ | ⟨h0,-⟩ | ⟨g',o',cap,h2,h3,h4,hr⟩
     ·cases h2
     ·omega
     ·simp only [Value.slice.injEq,Option.some.injEq,Addr.mk.injEq,and_true,true_and] at h2
      obtain⟨⟨rfl,rfl⟩,rfl⟩:=h2
      refine .inr (.inr ⟨g,0,c,rfl,Ws,h4,⟨fun j v hv=>hr.cells j v ?_,hr.lt⟩⟩)
      have hj:j<i:=by
       have:=(List.getElem?_eq_some_iff.1 hv).1
       rw [List.length_map,Gu.o] at this
       exact this
      rw [hyg j,if_neg Ws,← hv,← Jm.o,List.map_take,List.getElem?_take,if_pos hj])
    have Jo:Hid (zb [] W0 (wr.setCells g i (List.replicate (l.length - i) (.string ByteArray.empty)))):=qI (Gs.o.trans hkz (by intro b hb;simp at hb;subst hb;exact .inr Je.o))
    have hcI:(l.length:Int)≤c:=Ws
    have hicI:(i:Int)≤c:=Ws
    have hic:i≤c:=Ws
    have hne:c≠i:=Ws
    clear hys hyl hyg hkz hct hdn
    go_wp2_with fail
    go_ret
    rw [Gu.o]
    exact⟨⟨_,_,rfl,by unfold xJ;rw [Gu.o];exact Jn.o⟩,Jo.o⟩
def zU (n:Nat) (v:V n) (l:List yr) (r:qz) (keys:List xW):List ByteArray:=if yu r=true∧yj n v l=true then r.keys.filter (xo n v l keys) else []
structure kP (w:World) (a:Option Addr) (c:Nat) (r:qz):Prop where
 txt:xJ w (.slice a r.keys.length c) r.keys
 sizes:∀ k,k∈r.keys→k.size≤140737488355328
 few:r.keys.length≤1000000
theorem kP.kept0 {w w':World}{a:Option Addr}{c:Nat}{r:qz}(h:kP w a c r) (k:zb [] w w'):kP w' a c r:=⟨h.txt.kept0 k,h.sizes,h.few⟩
theorem noSign_any {n:Nat}{S:Nat→Prop}{w:World}{cs:List Value}{v:V n}{a:Option Addr}{c:Nat}{l:List yr}(h:Env n S w cs v a c l) (ht:qC w) (hks:xN w) (id:ByteArray) {a2:Option Addr}{c2:Nat}{keys:List xW}(hk:xP w (.slice a2 keys.length c2) keys)
  {g1 g2:Nat}(h1:w.heap[g1]? = some (.cells (vG cs a l.length c).toArray 28 (0,0))) (h2:w.heap[g2]? = some (.cells #[.slice a2 keys.length c2] 32 (0,0))) :
  CL w 28 #[.string id,.pointer (some ⟨g1,0,none⟩),.pointer (some ⟨g2,0,none⟩)] (.bool (!xo n v l keys id)):=by
 have CS:=signs_any h ht hks id hk
 obtain⟨kd,nm,st,p1,i1,d1,p2,i2,d2,rfl⟩:=h.rep.conv
 have CS:Hid (Cz w 29 #[.agg #[.int .i64 kd,.int .i64 nm,.string st,.slice p1 i1 d1,.slice p2 i2 d2,.slice a l.length c],.string id,.slice a2 keys.length c2] (.bool (xo n v l keys id))):=CS
 have h1:w.heap[g1]? = some (.cells #[.int .i64 kd,.int .i64 nm,.string st,.slice p1 i1 d1,.slice p2 i2 d2,.slice a l.length c] 28 (0,0)):=h1
 clear h ht hks hk
 generalize xo n v l keys id=b at CS ⊢
 generalize l.length=m at CS h1
 generalize keys.length=kn at CS h2
 obtain⟨c0,c1,c2',c3,c4,c5⟩:=xT h1
 have k0:=za (o:=0) h2 rfl
 clear h1 h2
 go_enter func28,ntmps28
 go_wp2_with (go_at_call 29;refine CS.o.mh ?_;rintro e w1 rfl HK)
 go_ret
 exact⟨rfl,HK.o⟩
theorem enterNoSign:∀ (args:Array Value) (w:World),(callFunc 28 args).run Tryz.prog w = .ok (.enter 28 args) w:=enters_of func28 Wr rfl
theorem valid_any {n:Nat}{S:Nat→Prop}{w:World}{cs:List Value}{v:V n}{a:Option Addr}{c:Nat}{l:List yr}(h:Env n S w cs v a c l) (ht:qC w) (hks:xN w) {r:qz}{ra:Option Addr}{rc:Nat}(hr:kP w ra rc r) {a2:Option Addr}{c2:Nat}{keys:List xW}(hk:xP w (.slice a2 keys.length c2) keys) :
  Calls Tryz.prog 12 #[.agg (vG cs a l.length c).toArray,.agg #[.slice ra r.keys.length rc,.int .i64 r.thr],.slice a2 keys.length c2] w fun e w'=>(∃ q d,e = .returned (.slice q (zU n v l r keys).length d)∧xJ w' (.slice q (zU n v l r keys).length d) (zU n v l r keys))∧zb [] w w':=by
 obtain⟨kd,nm,st,p1,i1,d1,p2,i2,d2,rfl⟩:=h.rep.conv
 obtain⟨W1,Gb⟩:∃ W1,Hid (W1=((w.alloc (.cells #[.int .i64 kd,.int .i64 nm,.string st,.slice p1 i1 d1,.slice p2 i2 d2,.slice a l.length c] 28)).alloc (.cells #[.slice ra r.keys.length rc,.int .i64 r.thr] 31)).alloc (.cells #[.slice a2 keys.length c2] 32)):=⟨_,qI rfl⟩
 have Ga:Hid (zb [] w W1):=qI (kA3 Gb.o)
 have Gc:Hid (W1.heap[w.heap.size]? = some (.cells (vG [.int .i64 kd,.int .i64 nm,.string st,.slice p1 i1 d1,.slice p2 i2 d2] a l.length c).toArray 28 (0,0))):=qI (by rw [Gb.o];exact (((zb.refl [] _).alloc _).alloc _).heap (zd rfl) Wz)
 have Ge:Hid (W1.heap[w.heap.size+1]? = some (.cells #[.slice ra r.keys.length rc,.int .i64 r.thr] 31 (0,0))):=qI (by rw [Gb.o];exact ((zb.refl [] _).alloc _).heap (zd Wz) Wz)
 have Gm:Hid (W1.heap[w.heap.size+2]? = some (.cells #[.slice a2 keys.length c2] 32 (0,0))):=qI (by rw [Gb.o];exact zd Wz)
 have HE:=qI (h.kept0 Ga.o)
 have HT:=qI (ht.kept0 Ga.o)
 have Gr:=qI (hks.kept0 Ga.o)
 have Gn:=qI (hr.kept0 Ga.o)
 have Jh:=qI (hk.kept0 Ga.o)
 have CR:=qI (QN Gn.o.txt Gn.o.sizes (by have:=Gn.o.few;omega))
 have CE:Hid (Cq W1 25 #[.agg #[.int .i64 kd,.int .i64 nm,.string st,.slice p1 i1 d1,.slice p2 i2 d2,.slice a l.length c]] (.bool (yj n v l))):=qI (fun w2 hk=>by have h1:=bR (HE.o.kept0 hk) (HT.o.kept0 hk);exact h1)
 have Gv:Hid (K6 W1 28 #[.pointer (some ⟨w.heap.size,0,none⟩),.pointer (some ⟨w.heap.size+2,0,none⟩)] (xo n v l keys)):=qI (fun w2 x hk=>by
  have h1:=noSign_any (HE.o.kept0 hk) (HT.o.kept0 hk) (Gr.o.kept0 hk) x (Jh.o.kept0 hk) (hk.heap Gc.o Wz) (hk.heap Gm.o Wz)
  exact h1)
 have HV:Hid (zU n v l r keys=if yu r=true∧yj n v l=true then r.keys.filter (xo n v l keys) else []):=qI (by unfold zU;rfl)
 have Gi:=qI Gn.o.few
 have CCL:Hid (∀ w2,zb [] W1 w2→_):=qI (fun w2 (hk:zb [] W1 w2)=>JH (Gn.o.txt.kept0 hk) Gi.o)
 clear h ht hks hr hk HE HT Gr Jh Gn
 generalize zU n v l r keys=res at HV ⊢
 generalize yj n v l=M at CE HV
 generalize xo n v l keys=p at Gv HV
 generalize hrk:r.keys=ks at Gb Ge CR HV Gi CCL ⊢
 generalize yu r=R at CR HV
 have Gc:Hid (W1.heap[w.heap.size]? = some (.cells #[.int .i64 kd,.int .i64 nm,.string st,.slice p1 i1 d1,.slice p2 i2 d2,.slice a l.length c] 28 (0,0))):=qI Gc.o
 generalize l.length=m at Gb Gc CE ⊢
 generalize keys.length=kn at Gb Gm ⊢
 clear hrk
 generalize r.thr=th at Gb Ge CR ⊢
 obtain⟨c0,c1,c2',c3,c4,c5⟩:=xT Gc.o
 have r0:=za (o:=0) Ge.o rfl
 have r1:=za (o:=1) Ge.o rfl
 show Calls _ _ #[.agg #[.int .i64 kd,.int .i64 nm,.string st,.slice p1 i1 d1,.slice p2 i2 d2,.slice a m c],.agg #[.slice ra ks.length rc,.int .i64 th],.slice a2 kn c2] _ _
 cases R with
 | false=>
  have HR:Hid (res=[]):=qI (by rw [HV.o,if_neg Wz])
  clear HV CCL Gv CE
  go_enter func12,ntmps12
  go_upto_region 1 with fail
  refine yq Gb.o ?_
  go_wp2_with (go_at_call 24;refine CR.o.mh ?_;rintro e w2 rfl Gd)
  go_ret
  rw [HR.o]
  exact⟨⟨none,0,rfl,yV _ _⟩,Ga.o.then Gd.o⟩
 | true=>
  cases M with
  | false=>
   have HR:Hid (res=[]):=qI (by rw [HV.o,if_neg Wz])
   clear HV CCL Gv
   go_enter func12,ntmps12
   go_upto_region 1 with fail
   refine yq Gb.o ?_
   go_wp2_with first
    | (go_at_call 24;refine CR.o.mono ?_;rintro e w2 ⟨rfl,hk2⟩;have y0:=hk2.cell c0 Wz;have y1:=hk2.cell c1 Wz;have y2:=hk2.cell c2' Wz;have y3:=hk2.cell c3 Wz;have y4:=hk2.cell c4 Wz;have y5:=hk2.cell c5 Wz;have Gd:=qI hk2;clear hk2 c0 c1 c2' c3 c4 c5)
    | (go_at_call 25;refine (CE.o _ Gd.o).mh ?_;rintro e w3 rfl Gj)
   go_ret
   rw [HR.o]
   exact⟨⟨none,0,rfl,yV _ _⟩,Ga.o.then (Gd.o.then Gj.o)⟩
  | true=>
   have HR:Hid (res=ks.filter p):=qI (by rw [HV.o,if_pos Wz])
   clear HV
   go_enter func12,ntmps12
   go_upto_region 1 with fail
   refine yq Gb.o ?_
   go_upto_region 3 with first
    | (go_at_call 24;refine CR.o.mono ?_;rintro e w2 ⟨rfl,hk2⟩;have y0:=hk2.cell c0 Wz;have y1:=hk2.cell c1 Wz;have y2:=hk2.cell c2' Wz;have y3:=hk2.cell c3 Wz;have y4:=hk2.cell c4 Wz;have y5:=hk2.cell c5 Wz;have z0:=hk2.cell r0 Wz;have z1:=hk2.cell r1 Wz;have Gd:=qI hk2;clear hk2 c0 c1 c2' c3 c4 c5 r0 r1)
    | (go_at_call 25;refine (CE.o _ Gd.o).mono ?_;rintro e w3 ⟨rfl,hk3⟩;have x0:=hk3.cell z0 Wz;have Gj:=qI (Gd.o.then hk3);clear hk3 y0 y1 y2 y3 y4 y5 z0 z1)
   go_wp2_with first
    | (go_at_call 27;refine (CCL.o _ Gj.o).mono ?_;rintro e w4 ⟨⟨a4,c4,rfl,ho4⟩,hk4⟩;have Jp:=qI ho4;have Gh:=qI (Gj.o.then hk4);clear hk4 ho4)
    | (go_at_call 26;refine (Kg Gv.o Gh.o Gj.o.size Jp.o Gi.o enterNoSign).mono ?_;rintro e w5 ⟨⟨a5,c5,rfl,ht5⟩,hk5⟩;have Jq:=qI ht5;have Ja:=qI hk5;clear hk5 ht5)
   go_ret
   rw [HR.o]
   exact⟨⟨_,_,rfl,Jq.o⟩,Ga.o.then Ja.o⟩
attribute [local go_sem] Oper.semAt_some
def jy (r:qz) (k:Nat):Int:=if yu r=true then max (r.thr-k) 0 else -1
def yN (r:qz) (k:Nat):Int:=if jy r k=0 then 0 else 180
def textsFact (l:List ByteArray):kf (zb []):=⟨fun v _ w=>∃ q d,v = .slice q l.length d∧xJ w (.slice q l.length d) l,fun _ _ _ _ ⟨q,d,h1,h2⟩ k=>⟨q,d,h1,h2.kept0 k⟩⟩
theorem mayRole_thr {r:qz}(h:yu r=true):1≤r.thr∧r.thr≤16:=by
 unfold yu at h
 simp only [Bool.and_eq_true,decide_eq_true_eq] at h
 omega
theorem Zs {n:Nat}{S:Nat→Prop}{w:World}{cs:List Value}{v:V n}{a:Option Addr}{c:Nat}{l:List yr}(h:Env n S w cs v a c l) (ht:qC w) (hks:xN w) {r:qz}{ra:Option Addr}{rc:Nat}(hr:kP w ra rc r) {a2:Option Addr}{c2:Nat}{keys:List xW}(hk:xP w (.slice a2 keys.length c2) keys) :
  CL w 20 #[.agg (vG cs a l.length c).toArray,.agg #[.slice ra r.keys.length rc,.int .i64 r.thr],.slice a2 keys.length c2] (.int .i64 (jy r (zU n v l r keys).length)):=by
 obtain⟨kd,nm,st,p1,i1,d1,p2,i2,d2,rfl⟩:=h.rep.conv
 obtain⟨W1,Gb⟩:∃ W1,Hid (W1=(w.alloc (.cells #[.int .i64 kd,.int .i64 nm,.string st,.slice p1 i1 d1,.slice p2 i2 d2,.slice a l.length c] 28)).alloc (.cells #[.slice ra r.keys.length rc,.int .i64 r.thr] 31)):=⟨_,qI rfl⟩
 have Ga:Hid (zb [] w W1):=qI (kA2 Gb.o)
 have Gc:Hid (W1.heap[w.heap.size]? = some (.cells #[.int .i64 kd,.int .i64 nm,.string st,.slice p1 i1 d1,.slice p2 i2 d2,.slice a l.length c] 28 (0,0))):=qI (by rw [Gb.o];exact ((zb.refl [] _).alloc _).heap (zd rfl) Wz)
 have Ge:Hid (W1.heap[w.heap.size+1]? = some (.cells #[.slice ra r.keys.length rc,.int .i64 r.thr] 31 (0,0))):=qI (by rw [Gb.o];exact zd Wz)
 have CR:=qI (QN (hr.kept0 Ga.o).txt hr.sizes (by have:=hr.few;omega))
 have CV:Hid (∀ w2,zb [] W1 w2→Calls Tryz.prog 12 #[.agg #[.int .i64 kd,.int .i64 nm,.string st,.slice p1 i1 d1,.slice p2 i2 d2,.slice a l.length c],.agg #[.slice ra r.keys.length rc,.int .i64 r.thr],.slice a2 keys.length c2] w2 fun e w'=>(∃ q d,e = .returned (.slice q (zU n v l r keys).length d)∧xJ w' (.slice q (zU n v l r keys).length d) (zU n v l r keys))∧zb [] w2 w'):=qI (fun w2 hk2=>by
  have h1:=valid_any ((h.kept0 Ga.o).kept0 hk2) ((ht.kept0 Ga.o).kept0 hk2) ((hks.kept0 Ga.o).kept0 hk2) ((hr.kept0 Ga.o).kept0 hk2) ((hk.kept0 Ga.o).kept0 hk2)
  exact h1)
 have HM:Hid (jy r (zU n v l r keys).length=if yu r=true then max (r.thr-(zU n v l r keys).length) 0 else -1):=qI rfl
 have Ji:Hid ((zU n v l r keys).length≤1000000):=qI (by
  unfold zU
  split
  ·exact Nat.le_trans (List.length_filter_le _ _) hr.few
  ·simp)
 have Jb:Hid (yu r=true→1≤r.thr∧r.thr≤16):=qI (fun h=>mayRole_thr h)
 clear h ht hks hr hk
 generalize jy r (zU n v l r keys).length=res at HM ⊢
 generalize zU n v l r keys=vl at CV HM Ji
 generalize yu r=R at CR HM Jb
 generalize l.length=m at Gb Gc CV ⊢
 generalize keys.length=kn at CV ⊢
 generalize r.keys.length=rn at Gb Ge CR CV ⊢
 generalize r.thr=th at Gb Ge CR CV HM Jb ⊢
 obtain⟨c0,c1,c2',c3,c4,c5⟩:=xT Gc.o
 have r0:=za (o:=0) Ge.o rfl
 have r1:=za (o:=1) Ge.o rfl
 show Calls _ _ #[.agg #[.int .i64 kd,.int .i64 nm,.string st,.slice p1 i1 d1,.slice p2 i2 d2,.slice a m c],.agg #[.slice ra rn rc,.int .i64 th],.slice a2 kn c2] _ _
 go_enter func20,ntmps20
 go_upto_region 1 with fail
 refine yq Gb.o ?_
 cases R with
 | false=>
  have HR:Hid (res = -1):=qI (by rw [HM.o,if_neg Wz])
  go_wp2_with (go_at_call 24;refine CR.o.mh ?_;rintro e w2 rfl Gd)
  go_ret
  rw [HR.o]
  exact⟨rfl,Ga.o.then Gd.o⟩
 | true=>
  have HR:Hid (res=max (th-vl.length) 0):=qI (by rw [HM.o,if_pos rfl])
  have hth:=Jb.o rfl
  have hvl:(vl.length:Int)≤1000000:=by have:=Ji.o;omega
  clear HM
  go_upto_region 3 with (go_at_call 24;refine CR.o.mono ?_;rintro e w2 ⟨rfl,hk2⟩;have y0:=hk2.cell c0 Wz;have y1:=hk2.cell c1 Wz;have y2:=hk2.cell c2' Wz;have y3:=hk2.cell c3 Wz;have y4:=hk2.cell c4 Wz;have y5:=hk2.cell c5 Wz;have z0:=hk2.cell r0 Wz;have z1:=hk2.cell r1 Wz;have Gd:=qI hk2;clear hk2 c0 c1 c2' c3 c4 c5 r0 r1)
  go_wp2
  refine zK (n:=19) 7 [fI (.pointer (some ⟨w.heap.size+1,1,none⟩)),
   fI (.int .i64 th),
   fI (.agg #[.int .i64 kd,.int .i64 nm,.string st,.slice p1 i1 d1,.slice p2 i2 d2,.slice a m c]),
   fI (.agg #[.slice ra rn rc,.int .i64 th]),
   fI (.slice a2 kn c2),
   textsFact vl,
   fI (.int .i64 vl.length)] Wr rfl Wr (fun x=>yH) ?_ ?_
  ·refine⟨?_,?_,?_,?_,?_,?_,?_,trivial⟩ <;> intro x w2 hkw b hd
   ·exact ze
   ·have d0:x 0=_:=hd 0 Wr
    have x1:=hkw.cell z1 Wz
    exact ze
   ·have x0:=hkw.cell y0 Wz
    have x1:=hkw.cell y1 Wz
    have x2:=hkw.cell y2 Wz
    have x3:=hkw.cell y3 Wz
    have x4:=hkw.cell y4 Wz
    have x5:=hkw.cell y5 Wz
    exact ze
   ·have x0:=hkw.cell z0 Wz
    have x1:=hkw.cell z1 Wz
    exact ze
   ·exact ze
   ·have d2:x 2=_:=hd 2 Wr
    have d3:x 3=_:=hd 3 Wr
    have d4:x 4=_:=hd 4 Wr
    have d2:x 2=_:=hd 2 Wr
    have d3:x 3=_:=hd 3 Wr
    have d4:x 4=_:=hd 4 Wr
    have CX:=CV.o _ (Gd.o.then hkw)
    go_wp2_with (go_at_call 12;refine CX.mono ?_;rintro e w9 ⟨⟨q9,d9,rfl,hb9⟩,hk9⟩;have Jr:=qI hb9;have Js:=qI hk9;clear hb9 hk9)
    exact⟨⟨q9,d9,rfl,Jr.o⟩,Js.o⟩
   ·obtain⟨q9,e9,d5,-⟩:=hd 5 Wr
    exact ze
  ·intro x w17 hkw b17 hd hwin
   have d1:x 1=_:=hd 1 Wo
   obtain⟨q,d,d5,-⟩:=hd 5 Wo
   have d6:x 6=_:=hd 6 Wo
   have Gl:=qI hkw
   clear hd hwin hkw
   change wpList _ _ _ [_,_,_] _ _
   obtain⟨h1,h2⟩:=hth
   go_wp2_with fail
   go_ret
   rw [HR.o]
   exact⟨rfl,Ga.o.then (Gd.o.then Gl.o)⟩
theorem jS {n:Nat}{S:Nat→Prop}{w:World}{cs:List Value}{v:V n}{a:Option Addr}{c:Nat}{l:List yr}(h:Env n S w cs v a c l) (ht:qC w) (hks:xN w) {r:qz}{ra:Option Addr}{rc:Nat}(hr:kP w ra rc r) {a2:Option Addr}{c2:Nat}{keys:List xW}(hk:xP w (.slice a2 keys.length c2) keys) :
  CL w 15 #[.agg (vG cs a l.length c).toArray,.agg #[.slice ra r.keys.length rc,.int .i64 r.thr],.slice a2 keys.length c2] (.int .i64 (yN r (zU n v l r keys).length)):=by
 obtain⟨kd,nm,st,p1,i1,d1,p2,i2,d2,rfl⟩:=h.rep.conv
 obtain⟨W1,Gb⟩:∃ W1,Hid (W1=(w.alloc (.cells #[.int .i64 kd,.int .i64 nm,.string st,.slice p1 i1 d1,.slice p2 i2 d2,.slice a l.length c] 28)).alloc (.cells #[.slice ra r.keys.length rc,.int .i64 r.thr] 31)):=⟨_,qI rfl⟩
 have Ga:Hid (zb [] w W1):=qI (kA2 Gb.o)
 have Gc:Hid (W1.heap[w.heap.size]? = some (.cells #[.int .i64 kd,.int .i64 nm,.string st,.slice p1 i1 d1,.slice p2 i2 d2,.slice a l.length c] 28 (0,0))):=qI (by rw [Gb.o];exact ((zb.refl [] _).alloc _).heap (zd rfl) Wz)
 have Ge:Hid (W1.heap[w.heap.size+1]? = some (.cells #[.slice ra r.keys.length rc,.int .i64 r.thr] 31 (0,0))):=qI (by rw [Gb.o];exact zd Wz)
 have CM:Hid (Cz W1 20 #[.agg #[.int .i64 kd,.int .i64 nm,.string st,.slice p1 i1 d1,.slice p2 i2 d2,.slice a l.length c],.agg #[.slice ra r.keys.length rc,.int .i64 r.thr],.slice a2 keys.length c2] (.int .i64 (jy r (zU n v l r keys).length))):=qI (by
  have h1:=Zs (h.kept0 Ga.o) (ht.kept0 Ga.o) (hks.kept0 Ga.o) (hr.kept0 Ga.o) (hk.kept0 Ga.o)
  exact h1)
 have Gp:Hid (yN r (zU n v l r keys).length=if jy r (zU n v l r keys).length=0 then 0 else 180):=qI rfl
 clear h ht hks hr hk
 generalize yN r (zU n v l r keys).length=res at Gp ⊢
 generalize jy r (zU n v l r keys).length=mz at CM Gp
 generalize l.length=m at Gb Gc CM ⊢
 generalize keys.length=kn at CM ⊢
 generalize r.keys.length=rn at Gb Ge CM ⊢
 generalize r.thr=th at Gb Ge CM ⊢
 obtain⟨c0,c1,c2',c3,c4,c5⟩:=xT Gc.o
 have r0:=za (o:=0) Ge.o rfl
 have r1:=za (o:=1) Ge.o rfl
 show Calls _ _ #[.agg #[.int .i64 kd,.int .i64 nm,.string st,.slice p1 i1 d1,.slice p2 i2 d2,.slice a m c],.agg #[.slice ra rn rc,.int .i64 th],.slice a2 kn c2] _ _
 by_cases hz:mz=0
 ·have HR:Hid (res=0):=qI (by rw [Gp.o,if_pos hz])
  obtain⟨f1,f2⟩:=xH hz
  clear Gp hz
  go_enter func15,ntmps15
  go_upto_region 1 with fail
  refine yq Gb.o ?_
  go_wp2_with (go_at_call 20;refine CM.o.mh ?_;rintro e w2 rfl Gd)
  go_ret
  rw [HR.o]
  exact⟨rfl,Ga.o.then Gd.o⟩
 ·have HR:Hid (res=180):=qI (by rw [Gp.o,if_neg hz])
  obtain⟨f1,f2⟩:=yF hz
  clear Gp hz
  go_enter func15,ntmps15
  go_upto_region 1 with fail
  refine yq Gb.o ?_
  go_wp2_with (go_at_call 20;refine CM.o.mh ?_;rintro e w2 rfl Gd)
  go_ret
  rw [HR.o]
  exact⟨rfl,Ga.o.then Gd.o⟩
def bothZ (x y:Int):Int:=if x=0 then y else x
theorem both_any {n:Nat}{S:Nat→Prop}{w:World}{cs:List Value}{v:V n}{a:Option Addr}{c:Nat}{l:List yr}(h:Env n S w cs v a c l) (ht:qC w) (hks:xN w) {r:qz}{ra:Option Addr}{rc:Nat}(hr:kP w ra rc r) {q:qz}{qa:Option Addr}{qc:Nat}(hq:kP w qa qc q)
  {a2:Option Addr}{c2:Nat}{keys:List xW}(hk:xP w (.slice a2 keys.length c2) keys) {a3:Option Addr}{c3:Nat}{under:List xW}(hu:xP w (.slice a3 under.length c3) under) :
  CL w 10 #[.agg (vG cs a l.length c).toArray,.agg #[.slice ra r.keys.length rc,.int .i64 r.thr],.agg #[.slice qa q.keys.length qc,.int .i64 q.thr],.slice a2 keys.length c2,.slice a3 under.length c3] (.int .i64 (bothZ (yN r (zU n v l r keys).length) (yN q (zU n v l q under).length))):=by
 obtain⟨kd,nm,st,p1,i1,d1,p2,i2,d2,rfl⟩:=h.rep.conv
 obtain⟨W1,Gb⟩:∃ W1,Hid (W1=((w.alloc (.cells #[.int .i64 kd,.int .i64 nm,.string st,.slice p1 i1 d1,.slice p2 i2 d2,.slice a l.length c] 28)).alloc (.cells #[.slice ra r.keys.length rc,.int .i64 r.thr] 31)).alloc (.cells #[.slice qa q.keys.length qc,.int .i64 q.thr] 31)):=⟨_,qI rfl⟩
 have Ga:Hid (zb [] w W1):=qI (kA3 Gb.o)
 have Gc:Hid (W1.heap[w.heap.size]? = some (.cells #[.int .i64 kd,.int .i64 nm,.string st,.slice p1 i1 d1,.slice p2 i2 d2,.slice a l.length c] 28 (0,0))):=qI (by rw [Gb.o];exact (((zb.refl [] _).alloc _).alloc _).heap (zd rfl) Wz)
 have Ge:Hid (W1.heap[w.heap.size+1]? = some (.cells #[.slice ra r.keys.length rc,.int .i64 r.thr] 31 (0,0))):=qI (by rw [Gb.o];exact ((zb.refl [] _).alloc _).heap (zd Wz) Wz)
 have Gm:Hid (W1.heap[w.heap.size+2]? = some (.cells #[.slice qa q.keys.length qc,.int .i64 q.thr] 31 (0,0))):=qI (by rw [Gb.o];exact zd Wz)
 have CA:Hid (Cz W1 15 #[.agg #[.int .i64 kd,.int .i64 nm,.string st,.slice p1 i1 d1,.slice p2 i2 d2,.slice a l.length c],.agg #[.slice ra r.keys.length rc,.int .i64 r.thr],.slice a2 keys.length c2] (.int .i64 (yN r (zU n v l r keys).length))):=qI (by
  have h1:=jS (h.kept0 Ga.o) (ht.kept0 Ga.o) (hks.kept0 Ga.o) (hr.kept0 Ga.o) (hk.kept0 Ga.o)
  exact h1)
 have CB:Hid (Cq W1 15 #[.agg #[.int .i64 kd,.int .i64 nm,.string st,.slice p1 i1 d1,.slice p2 i2 d2,.slice a l.length c],.agg #[.slice qa q.keys.length qc,.int .i64 q.thr],.slice a3 under.length c3] (.int .i64 (yN q (zU n v l q under).length))):=qI (fun w2 hk2=>by
  have h1:=jS ((h.kept0 Ga.o).kept0 hk2) ((ht.kept0 Ga.o).kept0 hk2) ((hks.kept0 Ga.o).kept0 hk2) ((hq.kept0 Ga.o).kept0 hk2) ((hu.kept0 Ga.o).kept0 hk2)
  exact h1)
 clear h ht hks hr hq hk hu
 generalize yN r (zU n v l r keys).length=x at CA ⊢
 generalize yN q (zU n v l q under).length=y at CB ⊢
 have HZ:Hid (bothZ x y=if x=0 then y else x):=qI rfl
 generalize bothZ x y=res at HZ ⊢
 generalize l.length=m at Gb Gc CA CB ⊢
 generalize keys.length=kn at CA ⊢
 generalize under.length=un at CB ⊢
 generalize r.keys.length=rn at Gb Ge CA ⊢
 generalize r.thr=th at Gb Ge CA ⊢
 generalize q.keys.length=qn at Gb Gm CB ⊢
 generalize q.thr=tq at Gb Gm CB ⊢
 obtain⟨c0,c1,c2',c3',c4,c5⟩:=xT Gc.o
 have r0:=za (o:=0) Ge.o rfl
 have r1:=za (o:=1) Ge.o rfl
 show Calls _ _ #[.agg #[.int .i64 kd,.int .i64 nm,.string st,.slice p1 i1 d1,.slice p2 i2 d2,.slice a m c],.agg #[.slice ra rn rc,.int .i64 th],.agg #[.slice qa qn qc,.int .i64 tq],.slice a2 kn c2,.slice a3 un c3] _ _
 by_cases hx:x=0
 ·have HR:Hid (res=y):=qI (by rw [HZ.o,if_pos hx])
  obtain⟨f1,f2⟩:=xH hx
  clear HZ hx
  go_enter func10,ntmps10
  go_upto_region 1 with fail
  refine yq Gb.o ?_
  go_upto_region 2 with (go_at_call 15;refine CA.o.mono ?_;rintro e w2 ⟨rfl,hk2⟩;have Gd:=qI hk2;clear hk2 c0 c1 c2' c3' c4 c5 r0 r1)
  have hB1:=Gd.o.heap Gc.o Wz
  have hB3:=Gd.o.heap Gm.o Wz
  obtain⟨y0,y1,y2,y3,y4,y5⟩:=xT hB1
  have z0:=za (o:=0) hB3 rfl
  have z1:=za (o:=1) hB3 rfl
  clear hB1 hB3
  go_wp2_with (go_at_call 15;refine (CB.o _ Gd.o).mh ?_;rintro e w3 rfl Gj)
  go_ret
  rw [HR.o]
  exact⟨rfl,Ga.o.then (Gd.o.then Gj.o)⟩
 ·have HR:Hid (res=x):=qI (by rw [HZ.o,if_neg hx])
  obtain⟨f1,f2⟩:=yF hx
  clear HZ hx
  go_enter func10,ntmps10
  go_upto_region 1 with fail
  refine yq Gb.o ?_
  go_wp2_with (go_at_call 15;refine CA.o.mh ?_;rintro e w2 rfl Gd)
  go_ret
  rw [HR.o]
  exact⟨rfl,Ga.o.then Gd.o⟩
attribute [local go_sem] Oper.semAt_some
theorem noText_any (w:World) (id:ByteArray):Calls Tryz.prog 52 #[.slice none 0 0,.string id] w fun e w'=>e = .returned (.bool false)∧w=w':=by
 have CI:Calls Tryz.prog 94 #[.slice none 0 0,.string id] w fun e w'=>e = .returned (.int .i64 (-1))∧w=w':=by
  go_enter func94,ntmps94
  go_wp2_with fail
  go_loopw [8] (fun i wr=>i = .int .i64 0∧w=wr) (fun _ _=>0)
  case atStart=>exact⟨rfl,rfl⟩
  case round=>
   obtain⟨rfl,rfl⟩:=hrel
   go_wp2_with fail
   go_ret
   exact⟨rfl,rfl⟩
 go_enter func52,ntmps52
 go_wp2_with (go_at_call 94;refine CI.mono ?_;rintro e w' ⟨rfl,rfl⟩)
 go_ret
 exact⟨rfl,rfl⟩
theorem signers1_any {n:Nat}{S:Nat→Prop}{w:World}{cs:List Value}{v:V n}{a:Option Addr}{c:Nat}{l:List yr}(h:Env n S w cs v a c l) (ht:qC w) (hks:xN w) {kr:xW}{a2:Option Addr}{c2:Nat}(hk:xP w (.slice a2 1 c2) [kr]) (hs:xo n v l [kr] kr.id=true) :
  Calls Tryz.prog 21 #[.agg (vG cs a l.length c).toArray,.slice a2 1 c2] w fun e w'=>(∃ q d,e = .returned (.slice q 1 d))∧zb [] w w':=by
 obtain⟨kd,nm,st,p1,i1,d1,p2,i2,d2,rfl⟩:=h.rep.conv
 obtain⟨W1,Gb⟩:∃ W1,Hid (W1=w.alloc (.cells #[.int .i64 kd,.int .i64 nm,.string st,.slice p1 i1 d1,.slice p2 i2 d2,.slice a l.length c] 28)):=⟨_,qI rfl⟩
 have Ga:Hid (zb [] w W1):=qI (kA1 Gb.o)
 have Gk:Hid (W1.heap[w.heap.size]? = some (.cells #[.int .i64 kd,.int .i64 nm,.string st,.slice p1 i1 d1,.slice p2 i2 d2,.slice a l.length c] 28 (0,0))):=qI (by rw [Gb.o];exact zd rfl)
 have HE:=qI (h.kept0 Ga.o)
 have HT:=qI (ht.kept0 Ga.o)
 have Gr:=qI (hks.kept0 Ga.o)
 have Gw:=qI (hk.kept0 Ga.o)
 have CS:Hid (Cq W1 29 #[.agg #[.int .i64 kd,.int .i64 nm,.string st,.slice p1 i1 d1,.slice p2 i2 d2,.slice a l.length c],.string kr.id,.slice a2 1 c2] (.bool true)):=qI (fun w2 hk2=>by
  have h1:=signs_any (HE.o.kept0 hk2) (HT.o.kept0 hk2) (Gr.o.kept0 hk2) kr.id (keys:=[kr]) (Gw.o.kept0 hk2)
  rw [hs] at h1
  exact h1)
 obtain⟨g,o,rfl,-,hcell⟩:=xP.cells (l:=[kr]) Gw.o Nat.one_pos
 have Jc:Hid (W1.rangeAt g o (kw kr.id kr.key)):=qI (by have h9:=hcell 0 Nat.one_pos;rw [Nat.zero_mul,Nat.add_zero] at h9;exact h9)
 have Jd:Hid (kr.key.root.length=32):=qI (Gw.o.fine kr Wz).1
 have CN:=qI (fun w2=>noText_any w2 kr.id)
 clear h ht hks hk hs hcell HE HT Gr Gw
 generalize l.length=m at Gb Gk CS ⊢
 generalize kr.id=id at CS Jc CN
 generalize kr.key=key at Jc Jd
 obtain⟨c0,c1,c2',c3,c4,c5⟩:=xT Gk.o
 have Jt:Hid (yD.root.length=32):=qI Wk
 show Calls _ _ #[.agg #[.int .i64 kd,.int .i64 nm,.string st,.slice p1 i1 d1,.slice p2 i2 d2,.slice a m c],.slice (some ⟨g,o,none⟩) 1 c2] _ _
 go_enter func21,ntmps21
 go_upto_region 1 with fail
 refine yq Gb.o ?_
 go_wp2_with fail
 go_loopw [5,10] (fun t5 i wr=>(i = .int .i64 0∧t5 = .slice none 0 0∧W1=wr)∨(i = .int .i64 1∧∃ q d,t5 = .slice q 1 d∧Hid (zb [] W1 wr))) (fun _ i _=>1-(intOf i).toNat)
 case atStart=>exact .inl ⟨rfl,rfl,rfl⟩
 case round=>
  rcases hrel with ⟨rfl,rfl,rfl⟩ | ⟨rfl,q,d,rfl,Gl⟩
  ·go_upto_region 5 with first
    | (refine wpList_load35 Wk _ rfl Jc.o Jd.o Wk ?_)
    | (refine JZ Wk (.tmp 7) (.tmp 13) Wk (g:=W1.heap.size) (id:=id) (id0:=⟨#[]⟩) (k:=key) (k0:=yD) (zd rfl) Jt.o Jd.o Wk Wk ?_;intro w4 h4 hk4;have Jj:=qI h4;have Gh:Hid (zb [] W1 w4):=qI (((zb.refl [] W1).alloc _).trans hk4 (by intro i hi;simp at hi;subst hi;exact .inr (Nat.le_refl _)));clear h4 hk4;simp only [Act.put])
   have y0:=Gh.o.cell c0 Wz
   have y1:=Gh.o.cell c1 Wz
   have y2:=Gh.o.cell c2' Wz
   have y3:=Gh.o.cell c3 Wz
   have y4:=Gh.o.cell c4 Wz
   have y5:=Gh.o.cell c5 Wz
   have z0:=Jj.o.c0
   clear c0 c1 c2' c3 c4 c5
   go_upto_region 6 with first
    | (go_at_call 52;refine (CN.o _).mono ?_;rintro e w' ⟨rfl,rfl⟩)
    | (go_at_call 29;refine (CS.o _ Gh.o).mono ?_;rintro e w5 ⟨rfl,hk5⟩;have Ja:=qI hk5;have z1:=(Jj.o.kept0 hk5).c0;clear hk5 y0 y1 y2 y3 y4 y5 z0)
   go_wp2_with (at_builtin;refine zk tyTexts (base:=w5.heap.size) (v:=.slice none 0 0) (n:=0) (m:=1) (news:=[.string id]) (xs:=[]) (World.ownsRow_nil _ _ _ _) (zT w5 [.string id] 1 1 _ _ rfl rfl Wo) (by simp [Value.oneCell']) Wo Wo Wz Wk _ _ rfl rfl rfl ?_;intro v6 w6 hown hk6 _ _;obtain⟨a6,c6,rfl,-,-⟩:=(Slc.of_row hown).form;have Ju:=qI (((zb.refl [] w5).alloc (.cells #[.string id] 9)).trans hk6 (by intro b hb;simp [Value.ownBlock] at hb));clear hown hk6)
   case roundEnd=>exact⟨.inr ⟨by go_num,a6,c6,rfl,qI (Gh.o.then (Ja.o.then Ju.o))⟩,by simp [intOf]⟩
  ·go_wp2_with fail
   go_ret
   exact⟨⟨q,d,rfl⟩,Ga.o.then Gl.o⟩
section
variable {n : Nat} {v : V n} {l m : List yr}
theorem bodyB_ext (h:yj n v m=yj n v l):xx n v m=xx n v l:=by
 unfold xx
 rw [h]
end
theorem QE:∀ (l seen:List ByteArray),kL seen l=true↔(∀ k,k∈l→qo k=true∧k ∉ seen)∧l.Nodup
 | [],seen=>by simp [kL]
 | k::t,seen=>by
  rw [kL,Bool.and_eq_true,Bool.and_eq_true,QE t (seen++[k])]
  simp only [Bool.not_eq_true',List.any_eq_false,decide_eq_true_eq,List.mem_append,not_or,List.mem_cons,List.not_mem_nil,or_false,List.nodup_cons,forall_eq_or_imp]
  constructor
  ·rintro ⟨⟨h1,h2⟩,h3,h4⟩
   exact⟨⟨⟨h2,fun h=>h1 k h rfl⟩,fun x hx=>⟨(h3 x hx).1,(h3 x hx).2.1⟩⟩,fun h=>(h3 k h).2.2 rfl,h4⟩
  ·rintro ⟨⟨⟨h1,h2⟩,h3⟩,h4,h5⟩
   exact⟨⟨fun x hx e=>h2 (e ▸ hx),h1⟩,fun x hx=>⟨(h3 x hx).1,(h3 x hx).2,fun e=>h4 (e ▸ hx)⟩,h5⟩
section
variable {n : Nat} {v : V n} {l : List yr}
end
end Go.Proofs.YtibnfbglanpoiaaGreatDoor

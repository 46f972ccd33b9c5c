/- Parts of one proof, merged: XJI XKW XIB XIC XCA XCB. -/
import Derived.Test.YtibnfbglanpoiaaGreatDoorQeN
import Derived.Test.YtibnfbglanpoiaaGreatDoorQeL
import Derived.Laws.IdiomStrings
set_option linter.all false
set_option maxHeartbeats 12800000
set_option maxRecDepth 10000
namespace Go.Proofs.YtibnfbglanpoiaaGreatDoor
open Go.Proofs.Tryz
open Go.RowKit
theorem KM:∀ (k:Nat) (s:S8) (l:List UInt8),l.length≤k→(kW s l).2.length=l.length%64
 | 0,s,l,h=>by
  rw [jN s l Ws]
  show l.length=_
  omega
 | k+1,s,l,h=>by
  rcases Nat.lt_or_ge l.length 64 with h64 | h64
  ·rw [jN s l h64]
   show l.length=_
   omega
  ·rw [bu s l h64,KM k _ _ (by simp;omega),List.length_drop]
   omega
theorem zR.kept {X:List Nat}{w w':World}{g:Nat}{l:List UInt8}(h:zR w g l) (k:zb X w w') (hg:g ∉ X):zR w' g l:=k.heap h hg
theorem zR.kept0 {w w':World}{g:Nat}{l:List UInt8}(h:zR w g l) (k:zb [] w w'):zR w' g l:=h.kept k Wz
theorem zq {ops:Array Oper}{rest:List Oper}{op:Oper}{a:Act}{w:World}{Q:Exit→Act→World→Prop}(hgd:op.guard=none) (x y:Operand) (ho:op.op = .store 45 x y) {g:Nat}{l l0:List UInt8}(h0:zR w g l0) (hl0:l0.length=32) (hl:l.length=32)
  (hx:a.eval x = .pointer (some ⟨g,0,none⟩)) (hy:a.eval y = .agg (l.map bv).toArray) (h:∀ w',zR w' g l→zb [g] w w'→wpList Tryz.prog ops Q rest (a.put op.dst undef) w'):wpList Tryz.prog ops Q (op::rest) a w:=by
 have hsz:(l.map bv).toArray.size=32:=by simp [hl]
 refine wpList_store_mid hgd 45 x y ho g 0 (l.map bv).toArray hx hy (by rw [hsz];exact h0.there 32 hl0) (by rw [hsz];exact xU) (one32 _) (h _ ?_ (yo _ _ _ _))
 exact h0.put (by rw [hl,hl0])
theorem zP {ops:Array Oper}{rest:List Oper}{op:Oper}{a:Act}{w:World}{Q:Exit→Act→World→Prop}(hgd:op.guard=none) (x:Operand) (ho:op.op = .load 45 x) {g:Nat}{l:List UInt8}(h0:zR w g l) (hl:l.length=32)
  (hx:a.eval x = .pointer (some ⟨g,0,none⟩)) (h:wpList Tryz.prog ops Q rest (a.put op.dst (.agg (l.map bv).toArray)) w):wpList Tryz.prog ops Q (op::rest) a w:=
 wpList_load_mid hgd 45 x ho g 0 hx (l.map bv) _ h0.range underlying45 rfl (by rw [List.length_map,hl];exact xU) h
theorem zR.var {w:World}{g:Nat}{l:List UInt8}(h:zR w g l) (hl:l.length=32):(loadVar 45 ⟨g,0,none⟩).run Tryz.prog w = .ok (.agg (l.map bv).toArray) w:=run_loadVar_mid (P:=Tryz.prog) w g 0 45 (l.map bv) _ h.range underlying45 rfl (by rw [List.length_map,hl];exact xU)
structure ZI (w:World) (q:Nat) (l:List UInt8) (wr:World):Prop where
 hash:∃ v,yI wr q (kW zu l).1 v l.length∧zp wr v (kW zu l).2∧∀ g,zW v=some g→g≠q
 kept:zb [] w wr
 res:zR wr w.heap.size (xe zu 0)
 ks:xN wr
theorem of_any (w:World) (g o cap:Nat) (vals:List Value) (ls:List (List UInt8)) (hrow:Row w g o vals) (hall:zH (zp w) vals ls) (hsum:ls.flatten.length≤100000000) (hn:vals.length≤1000000) (hks:xN w) :
  CL w 82 #[.slice (some ⟨g,o,none⟩) vals.length cap] (.agg ((zV ls.flatten).map bv).toArray):=by
 have Gz:=qI hrow
 have Gp:=qI hall
 have Gq:=qI hsum
 have HN:=qI hn
 have Jv:=qI hks
 have Jw:=qI (ZX hks)
 have hnI:(vals.length:Int)≤1000000:=Ws
 have Jj:Hid (ls.length=vals.length):=qI hall.1.symm
 clear hrow hall hsum hks hn
 go_enter func82,ntmps82
 go_upto_region 1 with fail
 change Code.wp _ _ _ _ (w.alloc (.cells z32 45))
 obtain⟨W1,Ja⟩:∃ W1,Hid (W1=w.alloc (.cells z32 45)):=⟨_,qI rfl⟩
 have Gc:Hid (zb [] w W1):=qI (kA1 Ja.o)
 have Gg:Hid (zR W1 w.heap.size (xe zu 0)):=qI (by rw [Ja.o];exact zd rfl)
 rw [← Ja.o]
 go_wp2_with (go_at_call 116;refine (new_any W1).mono ?_;rintro e w2 ⟨q,rfl,hq,hh2,hk2⟩;have HQ:=qI hq;have Jx:=qI hh2;have Gl:=qI hk2;clear hq hh2 hk2)
 have Gu:Hid (w.heap.size<q):=qI (by have:=HQ.o;have:=Gg.o.lt;omega)
 go_loopw [5,9] (fun _ i wr=>∃ k:Nat,i = .int .i64 k∧k≤vals.length∧ZI w q (ls.take k).flatten wr) (fun _ i _=>vals.length-(intOf i).toNat)
 case atStart=>exact⟨0,rfl,Nat.zero_le _,⟨⟨_,Jx.o,yV _ _,by simp [zW]⟩,Gc.o.then Gl.o,Gl.o.heap Gg.o Wz,Jv.o.kept0 (Gc.o.then Gl.o)⟩⟩
 case round=>
  obtain⟨k,rfl,hk,⟨⟨v,hh,hb,hv⟩,hkr,hres,hkr2⟩⟩:=hrel
  have HH:=qI hh
  have HB:=qI hb
  have HV:=qI hv
  have Gv:=qI hkr
  have Gr:=qI hres
  have Gs:=qI hkr2
  have Gm:Hid ((ls.take k).flatten.length≤100000000):=qI (Nat.le_trans (jJ ls k) Gq.o)
  clear hh hb hv hkr hres hkr2
  rcases Nat.lt_or_ge k vals.length with hlt | hlt
  ·have hltI:(k:Int)<vals.length:=by omega
   have c0:=Gv.o.cell (Gz.o.at hlt) Wz
   have hlt2:k<ls.length:=by rw [Jj.o];exact hlt
   have Jk:Hid (zp wr vals[k] ls[k]):=qI ((Gp.o.2 k _ _ (List.getElem?_eq_getElem hlt) (List.getElem?_eq_getElem hlt2)).kept0 Gv.o)
   have Gw:Hid ((ls.take (k+1)).flatten=(ls.take k).flatten++ls[k]):=qI (ql ls k hlt2)
   have Jy:Hid ((ls.take (k+1)).flatten.length≤100000000):=qI (Nat.le_trans (jJ ls (k+1)) Gq.o)
   have Jz:Hid (∀ g,zW vals[k]=some g→g≠q):=qI (fun g hg=>by
    have h1:=(Gp.o.2 k _ _ (List.getElem?_eq_getElem hlt) (List.getElem?_eq_getElem hlt2)).lt hg
    have h2:=Gu.o
    omega)
   have CW:Hid (Calls Tryz.prog 117 #[.pointer (some ⟨q,0,none⟩),vals[k]] wr fun e w'=>e = .returned (.int .i64 ls[k].length)∧ZI w q (ls.take (k+1)).flatten w'):=qI (by
    have h1:=Qt wr q _ v vals[k] _ ls[k] _ HH.o HB.o HV.o Jk.o Jz.o (Nat.le_of_lt (Qh _ _)) (by have:=Jy.o;rw [Gw.o,List.length_append] at this;omega) Ws (by have:=Gm.o;omega) Gs.o (by have:=Jw.o;have:=Gu.o;omega)
    refine h1.mono ?_
    rintro e w' ⟨rfl,⟨v',hh',hb',hv'⟩,hk',hks'⟩
    rw [← Zp _ zu _ ls[k] (Nat.le_refl _),← Gw.o] at hh' hb'
    refine⟨rfl,⟨v',?_,hb',fun g hg=>?_⟩,Gv.o.trans hk' (by intro i hi;simp at hi;subst hi;exact .inr (by have:=Gu.o;omega)),hk'.heap Gr.o (by have:=Gu.o;simp;omega),hks'⟩
    ·rw [Gw.o,List.length_append,Int.natCast_add]
     rw [← Gw.o]
     exact hh'
    ·have h2:=(hv' g hg).1
     have h3:=HH.o.lt
     omega)
   generalize hlk:ls[k].length=lk at CW
   clear hlk
   obtain⟨va,vn,vc,hvv,-,-⟩:∃ a n c,vals[k] = .slice a n c∧True∧True:=by
    obtain⟨a,c,h1,-,-⟩:=Jk.o.form
    exact⟨_,_,_,h1,trivial,trivial⟩
   rw [hvv] at c0 CW
   have e9:o+k*1=o+k:=Ws
   clear hvv
   go_wp2_with (go_at_call 117;refine CW.o.mono ?_;rintro e w3 ⟨rfl,hr3⟩;have Gh:=qI hr3;clear hr3)
   case roundEnd=>exact⟨⟨k+1,by go_num,Ws,Gh.o⟩,by simp [intOf];omega⟩
  ·obtain rfl:k=vals.length:=by omega
   have HT:Hid (ls.take vals.length=ls):=qI (by rw [← Jj.o];exact List.take_length)
   rw [HT.o] at HH HB Gm
   have CS:Hid (CL wr 118 #[.pointer (some ⟨q,0,none⟩)] (.agg ((zV ls.flatten).map bv).toArray)):=qI (by
    have h1:=sum_any wr q _ v _ ls.flatten.length HH.o HB.o (Qh _ _) (by have:=Gm.o;omega) Gs.o
    rw [← Zp _ zu _ _ (Nat.le_refl _),KM _ _ _ (Nat.le_refl _)] at h1
    exact h1)
   have hsz:((zV ls.flatten).map bv).toArray.size=32:=by simp [yt]
   go_wp2_with first
    | (go_at_call 118;refine CS.o.mh ?_;rintro e w4 rfl Jl)
    | (refine zq Wk (.tmp 2) (.tmp 18) Wk (Gr.o.kept0 Jl.o) (zJ _ _) (yt _) Wk Wk ?_;intro w5 h5 hk5;have H5:=qI h5;have Gk:=qI hk5;clear h5 hk5)
   have hres:=H5.o.var (yt _)
   refine bodyPost_ret (v:=.agg ((zV ls.flatten).map bv).toArray) (by simp only [results,results82];simp [hres,Sem.run_bind,asAddr,Act.put]) rfl ⟨rfl,?_⟩
   exact (Gv.o.then Jl.o).trans Gk.o (by intro i hi;simp at hi;subst hi;exact .inr (Nat.le_refl _))
theorem QH (w:World) (s:ByteArray) (hs:s.size≤281474976710656):∃ a n c w',(convert 9 53 (.string s)).run Tryz.prog w = .ok (.slice a n c) w'∧n=s.data.toList.length∧zp w' (.slice a n c) s.data.toList∧zb [] w w':=by
 refine⟨_,_,_,_,run_bytes_of_string w 9 53 5 s underlying9 underlying53 underlying5,Wz,?_,?_⟩
 ·have hl:s.data.toList.length=s.size:=by simp
  refine⟨Wz,.inr (.inr ⟨w.heap.size,0,_,by rw [hl],by rw [hl];exact grownCap_ge _ _ _ _,grownCap_le_maxLen _ _ _ _ (by simp only [maxLen];omega),⟨?_,?_⟩⟩)⟩
  ·intro j u hu
   rw [List.getElem?_map,Option.map_eq_some_iff] at hu
   obtain⟨b,hb,rfl⟩:=hu
   obtain⟨hj,rfl⟩:=List.getElem?_eq_some_iff.1 hb
   have hj':j<s.data.size:=by simpa using hj
   rw [Nat.zero_add]
   refine za (heap_alloc_new _ _) ?_
   rw [bytesRow_at s _ j hj']
   simp [bv]
  ·show w.heap.size<(w.drew.alloc _).heap.size
   simp
 ·exact (zb.refl [] w).drew.alloc _
theorem write_ne {n:Nat}{v:VS (V n)}(h:zr (n+1) v=true):zt (n+1) v≠[]:=by
 rcases jh (jf h) with k | k | k | k | k | k
 ·rw [write_1 k.1];simp
 ·rw [write_2 k.1]
  cases (v.num == 1)
  ·rw [fb_false];simp
  ·rw [fb_true];simp
 ·rw [write_3 k.1]
  obtain⟨d,t,e,-⟩:=itoa_head v.num
  rw [e];simp
 ·rw [write_4 k.1];simp [yG]
 ·rw [write_5 k.1];simp
 ·rw [write_6 k.1];simp
theorem write_ne' {n:Nat}{v:V n}(h:zr n v=true):zt n v≠[]:=by
 match n,v,h with
 | 0,v,_=>exact nomatch v
 | n+1,v,h=>exact write_ne h
theorem YQ {n:Nat}{v:V n}(h:yA n v):yA n (zy n v):=⟨by rw [vo];exact h.1,by rw [jW];exact h.2⟩
theorem Zw {n:Nat}{v:V n}(h:zr n v=true) (hs:yA n v):(zt n v).length≤3000000:=by
 have h1:=ZV n v h
 obtain⟨h2,h3⟩:=hs
 omega
theorem text_any {n:Nat}{v:V n}{S:Nat→Prop}{w:World}{cs:List Value}(h:Rep n S w cs v) (hs:yA n v) (hn:n≤100) (ht:qC w) (hc:yQ n v=0) :
  CL w 110 #[.agg cs.toArray] (.string (yc (zt n (zy n v)))):=by
 obtain⟨kd,nm,st,a,ca,ea,b,cb,eb,rfl⟩:=h.conv
 obtain⟨W0,Gb⟩:∃ W0,Hid (W0=(w.alloc (.cells #[.int .i64 kd,.int .i64 nm,.string st,.slice a ca ea,.slice b cb eb] 25)).alloc (.cells #[.pointer none,.slice none 0 0] 200)):=⟨_,qI rfl⟩
 have Jb:Hid (W0.heap.size=w.heap.size+2):=qI (by rw [Gb.o];simp)
 have Gd:Hid (zb [] w W0):=qI (kA2 Gb.o)
 have Ma:Hid (W0.heap[w.heap.size+1]? = some (.cells #[.pointer none,.slice none 0 0] 200 (0,0))):=qI (by
  rw [Gb.o];exact zd Wz)
 have CS:=qI (Sorted_any (h.kept0 Gd.o) hs hn (ht.kept0 Gd.o) hc)
 have HT:=qI ht
 have Jm:=qI (YQ hs)
 have HR:Hid (zr n (zy n v)=true):=qI (by rw [kp];exact Zg hc)
 have Jn:=qI (Zw HR.o Jm.o)
 have Mb:=qI (write_ne' HR.o)
 clear h hs ht hc
 go_enter func110,ntmps110
 go_wp2_with fail
 rw [← Gb.o]
 refine CS.o.mono ?_
 rintro e w1 ⟨⟨cs',rfl,hown⟩,hk1⟩
 have Mc:Hid (BW 200 w1 (w.heap.size+1) w1 []):=qI (BW.new (hk1.heap Ma.o Wz))
 have CP:=qI (put_any n (zy n v) (hown.rep.kept0 (zb.refl [] w1)) (fun g hg=>by have:=Jb.o;omega) HR.o Jm.o ⟨w,HT.o,Gd.o.then hk1,Nat.le_succ _⟩ Mc.o (by have:=Jn.o;simp only [List.length_nil];omega))
 have Gc:=qI (Gd.o.then hk1)
 clear hown hk1
 go_wp2_with fail
 refine CP.o.mono ?_
 rintro e w2 ⟨rfl,hb2,-⟩
 rw [List.nil_append] at hb2
 have Md:=qI hb2
 clear hb2
 go_wp2_with (go_at_call 84;refine (Zz Md.o (by have:=Jn.o;omega) Mb.o).mono ?_;rintro e w3 ⟨rfl,hk3,-⟩)
 go_ret
 exact⟨rfl,Gc.o.trans hk3 (by intro i hi;simp at hi;subst hi;exact .inr (Nat.le_succ _))⟩
theorem J1 {n:Nat}{v:V n}(h:yQ n v≠0):qB n v=([],yQ n v):=if_pos h
theorem Qs {n:Nat}{v:V n}(h:yQ n v=0) (hl:262144<(zt n (zy n v)).length):qB n v=([],3):=by
 unfold qB;rw [if_neg (by simp [h]),if_pos hl]
theorem bD {n:Nat}{v:V n}(h:yQ n v=0) (hl:(zt n (zy n v)).length≤262144):qB n v=(zt n (zy n v),0):=by
 unfold qB;rw [if_neg (by simp [h]),if_neg Ws]
theorem YH {n:Nat}{v:V n}{S:Nat→Prop}{w:World}{cs:List Value}(h:Rep n S w cs v) (hs:yA n v) (hn:n≤100) (ht:qC w) :
  Calls Tryz.prog 78 #[.agg cs.toArray] w fun e w'=>(∃ a c,e = .returned (.tuple #[.slice a (qB n v).1.length c,.int .i64 (qB n v).2])∧zp w' (.slice a (qB n v).1.length c) (qB n v).1)∧zb [] w w':=by
 obtain⟨kd,nm,st,a,ca,ea,b,cb,eb,rfl⟩:=h.conv
 obtain⟨W0,Gb⟩:∃ W0,Hid (W0=w.alloc (.cells #[.int .i64 kd,.int .i64 nm,.string st,.slice a ca ea,.slice b cb eb] 25)):=⟨_,qI rfl⟩
 have Gd:Hid (zb [] w W0):=qI (kA1 Gb.o)
 have Jo:Hid (qq W0 w.heap.size kd nm st (.slice a ca ea) (.slice b cb eb)):=qI (by rw [Gb.o];exact xr _ _ _ _ _ _ _)
 have CC:=qI (Qw (h.kept0 Gd.o) hs hn (ht.kept0 Gd.o))
 have CT:Hid (∀ w1,zb [] W0 w1→yQ n v=0→_):=qI (fun w1 (k:zb [] W0 w1) (hc:yQ n v=0)=>text_any ((h.kept0 Gd.o).kept0 k) hs hn ((ht.kept0 Gd.o).kept0 k) hc)
 clear h hs ht
 by_cases hc:yQ n v=0
 rotate_left
 ·have HE:=qI (J1 hc)
  have Mq:Hid (yQ n v≠0):=qI hc
  obtain⟨f1,f2⟩:=yF hc
  clear hc
  go_enter func78,ntmps78
  go_wp2_with fail
  rw [← Gb.o]
  refine CC.o.mono ?_
  rintro e w1 ⟨rfl,hk1⟩
  go_wp2_with fail
  go_ret2
  rw [HE.o]
  exact⟨⟨_,_,rfl,yV _ _⟩,Gd.o.then hk1⟩
 have HC:=qI hc
 clear hc
 by_cases hl:262144<(zt n (zy n v)).length
 ·have HE:=qI (Qs HC.o hl)
  have hlI:(262144:Int)<(zt n (zy n v)).length:=Ws
  go_enter func78,ntmps78
  go_wp2_with fail
  rw [← Gb.o]
  refine CC.o.mono ?_
  rintro e w1 ⟨rfl,hk1⟩
  rw [HC.o]
  obtain⟨c0,c1,c2,c3,c4⟩:=Jo.o.kept0 hk1
  have Gc:=qI hk1
  have Gx:Hid ((yc (zt n (zy n v))).size=(zt n (zy n v)).length):=qI (xv _)
  clear hk1
  go_wp2_with fail
  refine (CT.o _ Gc.o HC.o).mono ?_
  rintro e w2 ⟨rfl,hk2⟩
  have Gl:=qI hk2
  have hsb:=Gx.o
  revert hsb
  generalize yc (zt n (zy n v))=T
  intro hsb
  have hsI:(262144:Int)<T.size:=Ws
  clear hsb hk2 c0 c1 c2 c3 c4 hl hlI
  go_wp2_with fail
  go_ret2
  rw [HE.o]
  exact⟨⟨_,_,rfl,yV _ _⟩,(Gd.o.then Gc.o).then Gl.o⟩
 ·have HE:=qI (bD HC.o Ws)
  go_enter func78,ntmps78
  go_wp2_with fail
  rw [← Gb.o]
  refine CC.o.mono ?_
  rintro e w1 ⟨rfl,hk1⟩
  rw [HC.o]
  obtain⟨c0,c1,c2,c3,c4⟩:=Jo.o.kept0 hk1
  have Gc:=qI hk1
  have Gx:Hid ((yc (zt n (zy n v))).size=(zt n (zy n v)).length∧(yc (zt n (zy n v))).data.toList=zt n (zy n v)):=qI ⟨xv _,xZ _⟩
  clear hk1
  go_wp2_with fail
  refine (CT.o _ Gc.o HC.o).mono ?_
  rintro e w2 ⟨rfl,hk2⟩
  have Gl:=qI hk2
  have hsb:=Gx.o.1
  obtain⟨a2,n2,c2',w3,hrun,hn2,hb3,hk3⟩:=QH w2 (yc (zt n (zy n v))) Ws
  rw [Gx.o.2] at hn2 hb3
  subst hn2
  have Me:=qI hb3
  have Ga:=qI hk3
  revert hsb hrun
  generalize yc (zt n (zy n v))=T
  intro hsb hrun
  have hsI:(T.size:Int)≤262144:=Ws
  clear hsb hk2 hk3 hb3 c0 c1 c2 c3 c4 hl
  go_wp2_with fail
  go_ret2
  rw [HE.o]
  exact⟨⟨_,_,rfl,Me.o⟩,((Gd.o.then Gc.o).then Gl.o).then Ga.o⟩
structure zY where
 bits:Int
 height:Int
 root:List UInt8
def kz (k:zY):List Value:=.int .i64 k.bits :: .int .i64 k.height::k.root.map bv
def ye (k:zY):Array Value:=(kz k).toArray
theorem xE {k:zY}(h:k.root.length=32):(kz k).length=34:=by simp [kz,h]
def yv (b:Int):Bool:=decide (8≤b)&&(decide (b≤256)&&decide (b%8=0))
def zI (k:zY):Bool:=yv k.bits&&(decide (0≤k.height)&&decide (k.height≤6))
def yw (w:World) (g:Nat) (k:zY):Prop:=w.heap[g]? = some (.cells (ye k) 47 (0,0))
theorem yw.kept0 {w w':World}{g:Nat}{k:zY}(h:yw w g k) (hk:zb [] w w'):yw w' g k:=hk.heap h Wz
theorem yw.c0 {w:World}{g:Nat}{k:zY}(h:yw w g k):w.cell? ⟨g,0,none⟩=some (.int .i64 k.bits):=za h rfl
theorem yw.c1 {w:World}{g:Nat}{k:zY}(h:yw w g k):w.cell? ⟨g,1,none⟩=some (.int .i64 k.height):=za h rfl
theorem yw.range {w:World}{g:Nat}{k:zY}(h:yw w g k):w.rangeAt g 0 (kz k):=fun j v hv=>by
 rw [Nat.zero_add];exact za h (by simpa [ye] using hv)
theorem yw.root {w:World}{g:Nat}{k:zY}(h:yw w g k) (hl:k.root.length=32):zp w (.slice (some ⟨g,2,none⟩) 32 32) k.root:=by
 refine⟨Wz,.inr (.inr ⟨g,2,32,by rw [hl],Ws,Wo,⟨fun j u hu=>?_,lt_of_block h⟩⟩)⟩
 refine za h ?_
 rw [ye,List.getElem?_toArray,kz,show 2+j=j+1+1 by omega,List.getElem?_cons_succ,List.getElem?_cons_succ]
 exact hu
theorem YM:(Tryz.prog.info? 47).map (·.size)=some 34:=Wr
theorem zO {ops:Array Oper}{rest:List Oper}{op:Oper}{a:Act}{w:World}{Q:Exit→Act→World→Prop}(hgd:op.guard=none) (x:Operand) (ho:op.op = .load 47 x) {g:Nat}{k:zY}(h0:yw w g k) (hl:k.root.length=32)
  (hx:a.eval x = .pointer (some ⟨g,0,none⟩)) (h:wpList Tryz.prog ops Q rest (a.put op.dst (.agg (ye k))) w):wpList Tryz.prog ops Q (op::rest) a w:=
 wpList_load_mid hgd 47 x ho g 0 hx (kz k) _ h0.range underlying47 rfl (by rw [xE hl];exact YM) h
theorem jU (b:Int) (h0:-9223372036854775808≤b) (h1:b≤9223372036854775807) (w:World):Calls Tryz.prog 68 #[.int .i64 b] w fun e w'=>e = .returned (.bool (yv b))∧w=w':=by
 have HB:Hid (yv b=(decide (8≤b)&&(decide (b≤256)&&decide (b%8=0)))):=qI rfl
 by_cases k1:8≤b
 ·have d1:decide (8≤b)=true:=decide_eq_true k1
  by_cases k2:b≤256
  ·have d2:decide (b≤256)=true:=decide_eq_true k2
   by_cases k3:b%8=0
   all_goals
    go_enter func68,ntmps68
    go_wp2_with fail
    go_ret
    exact⟨by rw [HB.o,d1,d2];simp [k3],rfl⟩
  ·have d2:decide (b≤256)=false:=decide_eq_false k2
   go_enter func68,ntmps68
   go_wp2_with fail
   go_ret
   exact⟨by rw [HB.o,d1,d2];rfl,rfl⟩
 ·have d1:decide (8≤b)=false:=decide_eq_false k1
  go_enter func68,ntmps68
  go_wp2_with fail
  go_ret
  exact⟨by rw [HB.o,d1];rfl,rfl⟩
def qX (b:Int):Prop:=-9223372036854775808≤b∧b≤9223372036854775807
theorem vJ (k:zY) (hb:qX k.bits) (w:World):CL w 35 #[.agg (ye k)] (.bool (zI k)):=by
 have HM:Hid (zI k=(yv k.bits&&(decide (0≤k.height)&&decide (k.height≤6)))):=qI rfl
 obtain⟨W0,Gb⟩:∃ W0,Hid (W0=w.alloc (.cells (ye k) 47)):=⟨_,qI rfl⟩
 have Gd:Hid (zb [] w W0):=qI (kA1 Gb.o)
 have HA:Hid (yw W0 w.heap.size k):=qI (by rw [Gb.o];exact zd rfl)
 have CL:=qI (fun w1:World=>jU k.bits hb.1 hb.2 w1)
 have c0:=HA.o.c0
 have c1:=HA.o.c1
 revert HM CL
 generalize yv k.bits=r
 intro HM CL
 cases r with
 | false=>
  go_enter func35,ntmps35
  go_upto_region 1 with fail
  rw [← Gb.o]
  go_wp2_with (go_at_call 68;refine (CL.o _).mono ?_;rintro e w2 ⟨rfl,rfl⟩)
  go_ret
  exact⟨by rw [HM.o];rfl,Gd.o⟩
 | true=>
  by_cases k1:0≤k.height
  ·have d1:decide (0≤k.height)=true:=decide_eq_true k1
   go_enter func35,ntmps35
   go_upto_region 1 with fail
   rw [← Gb.o]
   go_wp2_with (go_at_call 68;refine (CL.o _).mono ?_;rintro e w2 ⟨rfl,rfl⟩)
   go_ret
   exact⟨by rw [HM.o,d1];rfl,Gd.o⟩
  ·have d1:decide (0≤k.height)=false:=decide_eq_false k1
   go_enter func35,ntmps35
   go_upto_region 1 with fail
   rw [← Gb.o]
   go_wp2_with (go_at_call 68;refine (CL.o _).mono ?_;rintro e w2 ⟨rfl,rfl⟩)
   go_ret
   exact⟨by rw [HM.o,d1];rfl,Gd.o⟩
theorem JA (n:Int) (w:World):CL w 114 #[.int .i64 n] (.agg #[.int .i64 3,.int .i64 n,.string ⟨#[]⟩,.slice none 0 0,.slice none 0 0]):=by
 go_enter func114,ntmps114
 go_wp2_with fail
 exact bodyPost_ret (v:=.agg #[.int .i64 3,.int .i64 n,.string ⟨#[]⟩,.slice none 0 0,.slice none 0 0]) (by simp [results,results114,go_sem]) rfl ⟨rfl,Wd.alloc _⟩
theorem ZA (s:ByteArray) (w:World):CL w 115 #[.string s] (.agg #[.int .i64 4,.int .i64 0,.string s,.slice none 0 0,.slice none 0 0]):=by
 go_enter func115,ntmps115
 go_wp2_with fail
 exact bodyPost_ret (v:=.agg #[.int .i64 4,.int .i64 0,.string s,.slice none 0 0,.slice none 0 0]) (by simp [results,results115,go_sem]) rfl ⟨rfl,Wd.alloc _⟩
theorem bj (key:ByteArray) (k m:Int) (s:ByteArray) (p:Option Addr) (i c:Nat) (q:Option Addr) (j d:Nat) (w:World):CL w 113 #[.string key,.agg #[.int .i64 k,.int .i64 m,.string s,.slice p i c,.slice q j d]] (.agg #[.string key,.int .i64 k,.int .i64 m,.string s,.slice p i c,.slice q j d]):=by
 go_enter func113,ntmps113
 go_wp2_with fail
 exact bodyPost_ret (v:=.agg #[.string key,.int .i64 k,.int .i64 m,.string s,.slice p i c,.slice q j d]) (by simp [results,results113,go_sem]) rfl ⟨rfl,(Wd.alloc _).alloc _⟩
def Zx {α:Type}(m:List (ByteArray×α)):VS α:=⟨6,0,⟨#[]⟩,[],m⟩
def YU {α:Type}(n:Int):VS α:=⟨3,n,⟨#[]⟩,[],[]⟩
def qY {α:Type}(s:ByteArray):VS α:=⟨4,0,s,[],[]⟩
theorem rep_map {n:Nat}{S:Nat→Prop}{w:World}{m:List (ByteArray×V n)}{mcs:List (ByteArray×List Value)}{a:Option Addr}{c:Nat}(hs:Slc w 6 (.slice a m.length c) m.length (yk mcs)) (hm:zH (vS (Rep n S w)) mcs m) (hS:∀ g,zW (.slice a m.length c)=some g→S g):Rep (n+1) S w [.int .i64 6,.int .i64 0,.string ⟨#[]⟩,.slice none 0 0,.slice a m.length c] (Zx m):=
 ⟨.slice none 0 0,_,[],mcs,{ cells:=rfl,slcl:=yV _ _,alll:=zH.nil _,slcm:=hs,allm:=hm,inl:=by simp [zW],inm:=hS,wfk:=Kd (i:=6) Wo Wo,wfn:=Kd (i:=0) Wo Wo }⟩
theorem Kn {n:Nat}(S:Nat→Prop) (w:World) (z:Int) (h:qX z):Rep (n+1) S w [.int .i64 3,.int .i64 z,.string ⟨#[]⟩,.slice none 0 0,.slice none 0 0] (YU z):=Ql S w (YU z) rfl rfl (Kd (i:=3) Wo Wo) (Kd h.1 h.2)
theorem bB {n:Nat}(S:Nat→Prop) (w:World) (s:ByteArray):Rep (n+1) S w [.int .i64 4,.int .i64 0,.string s,.slice none 0 0,.slice none 0 0] (qY s):=Ql S w (qY s) rfl rfl (Kd (i:=4) Wo Wo) (Kd (i:=0) Wo Wo)
def New (n:Nat) (w w':World) (e:Ending) (v:V n):Prop:=∃ cs:List Value,e = .returned (.agg cs.toArray)∧jp n (fun g=>w.heap.size≤g∧g<w'.heap.size) w' cs v
theorem JI {n:Nat}{S:Nat→Prop}{w:World}{m:List (ByteArray×V n)}{mcs:List (ByteArray×List Value)}{a:Option Addr}{c:Nat}(hs:Slc w 6 (.slice a m.length c) m.length (yk mcs)) (hm:zH (vS (Rep n S w)) mcs m) (hsm:yA (n+1) (Zx m)) :
  Calls Tryz.prog 112 #[.slice a m.length c] w fun e w'=>New (n+1) w w' e (Zx m)∧zb [] w w':=by
 obtain⟨W0,Gb⟩:∃ W0,Hid (W0=w.alloc (.cells #[.int .i64 0,.int .i64 0,.string ⟨#[]⟩,.slice none 0 0,.slice none 0 0] 25)):=⟨_,qI rfl⟩
 have Gd:Hid (zb [] w W0):=qI (kA1 Gb.o)
 have HR:Hid (W0.heap[w.heap.size]? = some (.cells #[.int .i64 0,.int .i64 0,.string ⟨#[]⟩,.slice none 0 0,.slice none 0 0] 25 (0,0))):=qI (by rw [Gb.o];exact zd rfl)
 have CC:=qI (J4 (n+1) (Zx m) (rep_map (S:=fun _=>True) (hs.kept0 Gd.o) (hm.mono fun _ _ _ r=>⟨r.1,(r.2.kept0 Gd.o).mono (fun _ _ _=>trivial)⟩) (fun _ _=>trivial)) hsm)
 clear hs hm hsm
 go_enter func112,ntmps112
 go_upto_region 1 with fail
 rw [← Gb.o]
 go_wp2_with (go_at_call 45;refine CC.o.mono ?_;rintro e w3 ⟨⟨cs3,rfl,ho3⟩,hk3⟩;obtain⟨k3,m3,s3,x3,j3,c3,y3,l3,e3,rfl⟩:=ho3.rep.conv;have Gt:=qI ho3;have Ga:=qI hk3;have Gh:=qI (hk3.heap HR.o Wz);have r0:=za (o:=0) (v:=.int .i64 0) Gh.o rfl;have r1:=za (o:=1) (v:=.int .i64 0) Gh.o rfl;have r2:=za (o:=2) (v:=.string ⟨#[]⟩) Gh.o rfl;have r3:=za (o:=3) (v:=.slice none 0 0) Gh.o rfl;have r4:=za (o:=4) (v:=.slice none 0 0) Gh.o rfl;have z:∀ j,w3.frozen? ⟨w.heap.size,j,none⟩=false:=fun j=>zh Gh.o;clear ho3 hk3)
 change bodyPost _ _ _ _ _ (bp w3 w.heap.size k3 m3 s3 (.slice x3 j3 c3) (.slice y3 l3 e3))
 have Ge:=ja w3 w.heap.size k3 m3 s3 (.slice x3 j3 c3) (.slice y3 l3 e3)
 have Gf:=vP Gh.o k3 m3 s3 (.slice x3 j3 c3) (.slice y3 l3 e3)
 revert Ge Gf
 generalize bp w3 w.heap.size k3 m3 s3 (.slice x3 j3 c3) (.slice y3 l3 e3)=WF
 intro Ge Gf
 obtain⟨z0,z1,z2,z3,z4⟩:=jt Gf
 refine bodyPost_ret (v:=.agg #[.int .i64 k3,.int .i64 m3,.string s3,.slice x3 j3 c3,.slice y3 l3 e3]) (by simp [results,results112,go_sem,z0,z1,z2,z3,z4]) rfl ⟨?_,(Gd.o.then Ga.o).trans Ge (by intro i hi;simp at hi;subst hi;exact .inr (Nat.le_refl _))⟩
 have hsz:W0.heap.size=w.heap.size+1:=by rw [Gb.o];simp
 exact⟨_,rfl,(Gt.o.kept Ge (by intro k hk;simp at hk;subst hk;omega)).mono (fun g ⟨h5,h6⟩=>⟨Ws,Nat.lt_of_lt_of_le h6 Ge.size⟩)⟩
def qp (l:List UInt8):ByteArray:=yc (kQ l)
def j7 (k:zY):V 2:=(Zx [(⟨#[98,105,116,115]⟩,(YU k.bits:VS (V 0))),(⟨#[104,101,105,103,104,116]⟩,YU k.height),(⟨#[112,117,98,108,105,99]⟩,qY (qp k.root))]:VS (V 1))
def ka (k:zY):V 3:=(Zx [(⟨#[107,101,121,116,121,112,101]⟩,(qY ⟨#[108,97,109,112,111,114,116,45,109,101,114,107,108,101]⟩:VS (V 1))),(⟨#[115,99,104,101,109,101]⟩,qY ⟨#[115,104,97,50,53,54]⟩),(⟨#[107,101,121,118,97,108]⟩,j7 k)]:VS (V 2))
theorem kI (l:List UInt8):(qp l).size=2*l.length:=by rw [qp,xv,vA]
theorem QF (k:zY) (h:k.root.length=32):yA 2 (j7 k):=by
 have e:=kI k.root
 have e2:yl 2 (j7 k)=0+(4+(6+(6+0)))+((0+0+0)+((0+0+0)+(((qp k.root).size+0+0)+0))):=rfl
 exact⟨by show (4:Nat)≤20000;omega,by rw [e2,e,h];omega⟩
theorem small_key (k:zY) (h:k.root.length=32):yA 3 (ka k):=by
 have e:=(QF k h).2
 have e2:yl 3 (ka k)=0+(7+(6+(6+0)))+((14+0+0)+((6+0+0)+(yl 2 (j7 k)+0))):=rfl
 have e3:yl 2 (j7 k)=0+(4+(6+(6+0)))+((0+0+0)+((0+0+0)+(((qp k.root).size+0+0)+0))):=rfl
 have e4:=kI k.root
 exact⟨by show (7:Nat)≤20000;omega,by rw [e2,e3,e4,h];omega⟩
def bO (w w':World) (e:Ending) (k:zY):Prop:=if zI k=true then New 3 w w' e (ka k) else e = .returned Z4
theorem may_wf {k:zY}(h:zI k=true):qX k.bits∧qX k.height:=by
 unfold zI yv at h
 simp only [Bool.and_eq_true,decide_eq_true_eq] at h
 exact⟨⟨Ws,Ws⟩,Ws,Ws⟩
def newFact (n:Nat) (v:V n):kf (zb []):=⟨fun u b w=>∃ k m s p i c q j d,u = .agg #[.int .i64 k,.int .i64 m,.string s,.slice p i c,.slice q j d]∧jp n (fun g=>b.1≤g∧g<b.2) w [.int .i64 k,.int .i64 m,.string s,.slice p i c,.slice q j d] v,fun _ _ _ _ ⟨k,m,s,p,i,c,q,j,d,h1,h2⟩ kk=>⟨k,m,s,p,i,c,q,j,d,h1,h2.kept0 kk⟩⟩
theorem Kv {n:Nat}{w w':World}{e:Ending}{v:V n}(h:New n w w' e v):∃ k m s p i c q j d,e = .returned (.agg #[.int .i64 k,.int .i64 m,.string s,.slice p i c,.slice q j d])∧jp n (fun g=>w.heap.size≤g∧g<w'.heap.size) w' [.int .i64 k,.int .i64 m,.string s,.slice p i c,.slice q j d] v:=by
 obtain⟨cs,rfl,h⟩:=h
 obtain⟨k,m,s,p,i,c,q,j,d,rfl⟩:=h.rep.conv
 exact⟨k,m,s,p,i,c,q,j,d,rfl,h⟩
theorem keyValue_any (k:zY) (hb:qX k.bits) (hr:k.root.length=32) (w:World):Calls Tryz.prog 81 #[.agg (ye k)] w fun e w'=>bO w w' e k∧zb [] w w':=by
 obtain⟨W0,Gb⟩:∃ W0,Hid (W0=(w.alloc (.cells (ye k) 47)).alloc (.cells #[.int .i64 0,.int .i64 0,.string ⟨#[]⟩,.slice none 0 0,.slice none 0 0] 25)):=⟨_,qI rfl⟩
 have Gd:Hid (zb [] w W0):=qI (kA2 Gb.o)
 have HA:Hid (yw W0 w.heap.size k):=qI (by rw [Gb.o];exact ((zb.refl [] _).alloc _).heap (zd rfl) Wz)
 have Jp:Hid (W0.heap[w.heap.size+1]? = some (.cells #[.int .i64 0,.int .i64 0,.string ⟨#[]⟩,.slice none 0 0,.slice none 0 0] 25 (0,0))):=qI (by rw [Gb.o];exact zd Wz)
 have Gy:Hid (w.heap.size≤W0.heap.size):=qI Gd.o.size
 have Jq:Hid (W0.heap.size=w.heap.size+2):=qI (by rw [Gb.o];simp)
 have CM:=qI (vJ k hb W0)
 have Gi:=qI hr
 clear hb hr
 have Jr:Hid (∀ w2:World,zb [] W0 w2→Calls Tryz.prog 44 #[.slice (some ⟨w.heap.size,2,none⟩) 32 32] w2 fun e w'=>e = .returned (.string (qp k.root))∧zb [] w2 w'):=qI (fun w2 hk=>by
  have h1:=Ko (w:=w2) (l:=k.root) (by rw [Gi.o];exact (HA.o.root Gi.o).kept0 hk) (by rw [Gi.o];decide) (by intro e;have:=Gi.o;rw [e] at this;cases this)
  rw [Gi.o] at h1
  exact h1)
 obtain⟨hs,Js⟩:∃ hs,Hid (hs=qp k.root):=⟨_,qI rfl⟩
 rw [← Js.o] at Jr
 have Mf:Hid (zI k=true→qX k.bits∧qX k.height):=qI may_wf
 by_cases hm:zI k=true
 rotate_left
 ·have hm2:zI k=false:=by simpa using hm
  rw [hm2] at CM
  have Jc:Hid (∀ w' e,bO w w' e k=(e = .returned Z4)):=qI (fun w' e=>by unfold bO;rw [if_neg hm])
  clear hm hm2
  go_enter func81,ntmps81
  go_upto_region 1 with fail
  rw [← Gb.o]
  go_wp2_with first
   | (refine zO Wk (.tmp 1) Wk HA.o Gi.o Wk ?_)
   | (go_at_call 35;refine CM.o.mono ?_;rintro e w1 ⟨rfl,hk1⟩;have Gc:=qI hk1;have Gg:=qI (hk1.heap Jp.o Wz);have r0:=za (o:=0) (v:=.int .i64 0) Gg.o rfl;have r1:=za (o:=1) (v:=.int .i64 0) Gg.o rfl;have r2:=za (o:=2) (v:=.string ⟨#[]⟩) Gg.o rfl;have r3:=za (o:=3) (v:=.slice none 0 0) Gg.o rfl;have r4:=za (o:=4) (v:=.slice none 0 0) Gg.o rfl;have z:∀ j,w1.frozen? ⟨w.heap.size+1,j,none⟩=false:=fun j=>zh Gg.o;clear hk1)
  change bodyPost _ _ _ _ _ (bp w1 (w.heap.size+1) 0 0 ⟨#[]⟩ (.slice none 0 0) (.slice none 0 0))
  have Ge:=ja w1 (w.heap.size+1) 0 0 ⟨#[]⟩ (.slice none 0 0) (.slice none 0 0)
  have Gf:=vP Gg.o 0 0 ⟨#[]⟩ (.slice none 0 0) (.slice none 0 0)
  revert Ge Gf
  generalize bp w1 (w.heap.size+1) 0 0 ⟨#[]⟩ (.slice none 0 0) (.slice none 0 0)=WF
  intro Ge Gf
  obtain⟨y0,y1,y2,y3,y4⟩:=jt Gf
  exact bodyPost_ret (v:=Z4) (by simp [results,results81,go_sem,y0,y1,y2,y3,y4,Z4]) rfl ⟨by rw [Jc.o],((Gd.o.then Gc.o).trans Ge (by intro i hi;simp at hi;subst hi;exact .inr Wz))⟩
 rw [hm] at CM
 have Jc:Hid (∀ w' e,bO w w' e k=New 3 w w' e (ka k)):=qI (fun w' e=>by unfold bO;rw [if_pos hm])
 have Jt:=qI (Mf.o hm)
 clear hm
 go_enter func81,ntmps81
 go_upto_region 1 with fail
 rw [← Gb.o]
 go_upto_region 3 with first
  | (refine zO Wk (.tmp 1) Wk HA.o Gi.o Wk ?_)
  | (go_at_call 35;refine CM.o.mh ?_;rintro e w1 rfl Gc)
 have Mg:Hid (w.heap.size≤w1.heap.size):=qI (Nat.le_trans Gy.o Gc.o.size)
 have Mh:Hid (∀ (g:Nat) (w2:World),zb [] w1 w2→Slc w2 6 (.slice (some ⟨g,0,none⟩) 3 3) 3 [.string ⟨#[98,105,116,115]⟩,.int .i64 3,.int .i64 k.bits,.string ⟨#[]⟩,.slice none 0 0,.slice none 0 0,.string ⟨#[104,101,105,103,104,116]⟩,.int .i64 3,.int .i64 k.height,.string ⟨#[]⟩,.slice none 0 0,.slice none 0 0,.string ⟨#[112,117,98,108,105,99]⟩,.int .i64 4,.int .i64 0,.string hs,.slice none 0 0,.slice none 0 0]→Calls Tryz.prog 112 #[.slice (some ⟨g,0,none⟩) 3 3] w2 fun e w'=>New 2 w2 w' e (j7 k)∧zb [] w2 w'):=qI (fun g w2 hk hs2=>by
  refine JI (n:=1) (S:=fun _=>True) (m:=(j7 k).m) (mcs:=[(⟨#[98,105,116,115]⟩,[.int .i64 3,.int .i64 k.bits,.string ⟨#[]⟩,.slice none 0 0,.slice none 0 0]),(⟨#[104,101,105,103,104,116]⟩,[.int .i64 3,.int .i64 k.height,.string ⟨#[]⟩,.slice none 0 0,.slice none 0 0]),(⟨#[112,117,98,108,105,99]⟩,[.int .i64 4,.int .i64 0,.string hs,.slice none 0 0,.slice none 0 0])]) hs2 ?_ (QF k Gi.o)
  exact zH.cons ⟨rfl,Kn (n:=0) _ _ _ Jt.o.1⟩ (zH.cons ⟨rfl,Kn (n:=0) _ _ _ Jt.o.2⟩ (zH.cons ⟨rfl,by rw [Js.o];exact bB (n:=0) _ _ _⟩ (zH.nil _))))
 refine zK (n:=31) 16 [fI (.pointer (some ⟨w.heap.size,0,none⟩)),
  fI (.int .i64 k.bits),
  fI (.agg #[.int .i64 3,.int .i64 k.bits,.string ⟨#[]⟩,.slice none 0 0,.slice none 0 0]),
  fI (.agg #[.string ⟨#[98,105,116,115]⟩,.int .i64 3,.int .i64 k.bits,.string ⟨#[]⟩,.slice none 0 0,.slice none 0 0]),
  fI (.pointer (some ⟨w.heap.size,1,none⟩)),
  fI (.int .i64 k.height),
  fI (.agg #[.int .i64 3,.int .i64 k.height,.string ⟨#[]⟩,.slice none 0 0,.slice none 0 0]),
  fI (.agg #[.string ⟨#[104,101,105,103,104,116]⟩,.int .i64 3,.int .i64 k.height,.string ⟨#[]⟩,.slice none 0 0,.slice none 0 0]),
  fI (.pointer (some ⟨w.heap.size,2,none⟩)),
  fI (.slice (some ⟨w.heap.size,2,none⟩) 32 32),
  fI (.string hs),
  fI (.agg #[.int .i64 4,.int .i64 0,.string hs,.slice none 0 0,.slice none 0 0]),
  fI (.agg #[.string ⟨#[112,117,98,108,105,99]⟩,.int .i64 4,.int .i64 0,.string hs,.slice none 0 0,.slice none 0 0]),
  xD [.string ⟨#[98,105,116,115]⟩,.int .i64 3,.int .i64 k.bits,.string ⟨#[]⟩,.slice none 0 0,.slice none 0 0,.string ⟨#[104,101,105,103,104,116]⟩,.int .i64 3,.int .i64 k.height,.string ⟨#[]⟩,.slice none 0 0,.slice none 0 0,.string ⟨#[112,117,98,108,105,99]⟩,.int .i64 4,.int .i64 0,.string hs,.slice none 0 0,.slice none 0 0] 3 6,
  newFact 2 (j7 k),
  boxFact 25] Wr rfl Wr (fun x=>yH) ?_ ?_
 ·refine⟨?_,?_,?_,?_,?_,?_,?_,?_,?_,?_,?_,?_,?_,?_,?_,?_,trivial⟩ <;> intro x w2 hkw b hd
  ·exact ze
  ·have KA:=HA.o.kept0 (Gc.o.then hkw)
   have y0:=KA.c0
   have d0:x 0=_:=hd 0 Wr
   exact ze
  ·have d1:x 1=_:=hd 1 Wr
   have CX:=JA k.bits w2
   go_wp2_with (go_at_call 114;refine CX.mh ?_;rintro e w3 rfl Ga)
   exact⟨rfl,Ga.o⟩
  ·have d2:x 2=_:=hd 2 Wr
   have CX:=bj ⟨#[98,105,116,115]⟩ 3 k.bits ⟨#[]⟩ none 0 0 none 0 0 w2
   go_wp2_with (go_at_call 113;refine CX.mh ?_;rintro e w3 rfl Ga)
   exact⟨rfl,Ga.o⟩
  ·exact ze
  ·have KA:=HA.o.kept0 (Gc.o.then hkw)
   have y1:=KA.c1
   have d4:x 4=_:=hd 4 Wr
   exact ze
  ·have d5:x 5=_:=hd 5 Wr
   have CX:=JA k.height w2
   go_wp2_with (go_at_call 114;refine CX.mh ?_;rintro e w3 rfl Ga)
   exact⟨rfl,Ga.o⟩
  ·have d6:x 6=_:=hd 6 Wr
   have CX:=bj ⟨#[104,101,105,103,104,116]⟩ 3 k.height ⟨#[]⟩ none 0 0 none 0 0 w2
   go_wp2_with (go_at_call 113;refine CX.mh ?_;rintro e w3 rfl Ga)
   exact⟨rfl,Ga.o⟩
  ·exact ze
  ·have d8:x 8=_:=hd 8 Wr
   exact ze
  ·have d9:x 9=_:=hd 9 Wr
   have CX:=Jr.o w2 (Gc.o.then hkw)
   go_wp2_with (go_at_call 44;refine CX.mh ?_;rintro e w3 rfl Ga)
   exact⟨rfl,Ga.o⟩
  ·have d10:x 10=_:=hd 10 Wr
   have CX:=ZA hs w2
   go_wp2_with (go_at_call 115;refine CX.mh ?_;rintro e w3 rfl Ga)
   exact⟨rfl,Ga.o⟩
  ·have d11:x 11=_:=hd 11 Wr
   have CX:=bj ⟨#[112,117,98,108,105,99]⟩ 4 0 hs none 0 0 none 0 0 w2
   go_wp2_with (go_at_call 113;refine CX.mh ?_;rintro e w3 rfl Ga)
   exact⟨rfl,Ga.o⟩
  ·have d3:x 3=_:=hd 3 Wr
   have d7:x 7=_:=hd 7 Wr
   have d12:x 12=_:=hd 12 Wr
   go_wp2_with fail
   exact⟨⟨_,rfl,Nat.le_refl _,Wz,zT w2 [.string ⟨#[98,105,116,115]⟩,.int .i64 3,.int .i64 k.bits,.string ⟨#[]⟩,.slice none 0 0,.slice none 0 0,.string ⟨#[104,101,105,103,104,116]⟩,.int .i64 3,.int .i64 k.height,.string ⟨#[]⟩,.slice none 0 0,.slice none 0 0,.string ⟨#[112,117,98,108,105,99]⟩,.int .i64 4,.int .i64 0,.string hs,.slice none 0 0,.slice none 0 0] 6 3 _ _ rfl rfl Wo⟩,Wd.alloc _⟩
  ·obtain⟨gx,d13,-,-,hs13⟩:=hd 13 Wr
   have CX:=Mh.o gx w2 hkw hs13
   clear hs13
   go_wp2_with (go_at_call 112;refine CX.mono ?_;rintro e w3 ⟨hn3,hk3⟩;obtain⟨k3,m3,s3,p3,i3,c3,q3,j3,e3,rfl,ho3⟩:=Kv hn3;have Gt:=qI ho3;have Ga:=qI hk3;have Jd:=qI (hkw.size);clear hk3 ho3 hn3)
   exact⟨⟨_,_,_,_,_,_,_,_,_,rfl,Gt.o⟩,Ga.o⟩
  ·have Jd:=qI (hkw.size)
   go_wp2_with fail
   exact⟨⟨_,Nat.le_refl _,Wz,rfl,zd rfl⟩,Wd.alloc _⟩
 ·intro x w2 hkw b hd hwin
  obtain⟨g,hg1,hg2,d15,hb15⟩:=hd 15 Wo
  obtain⟨k3,m3,s3,p3,i3,c3,q3,j3,e3,d14,ho14⟩:=hd 14 Wo
  have d13:=(hd 13 Wo)
  have hap:=hwin.2 14 15 Wo Wo Wo
  have hw15:=hwin.1 15 Wo
  have hw14:=hwin.1 14 Wo
  have HO:=qI ho14
  have HB:=qI hb15
  have HG:Hid (w.heap.size+2≤g):=qI (by have:=Jq.o;have:=Gc.o.size;omega)
  have Mi:Hid (∀ g',(b 14).1≤g'∧g'<(b 14).2→g'≠g∧w1.heap.size≤g'∧g'<w2.heap.size):=qI (fun g' h=>⟨Ws,Ws,Ws⟩)
  have Je:=qI hkw
  have r0:=za (o:=0) (v:=.int .i64 0) hb15 rfl
  have r1:=za (o:=1) (v:=.int .i64 0) hb15 rfl
  have r2:=za (o:=2) (v:=.string ⟨#[]⟩) hb15 rfl
  have r3:=za (o:=3) (v:=.slice none 0 0) hb15 rfl
  have r4:=za (o:=4) (v:=.slice none 0 0) hb15 rfl
  have z:∀ j,w2.frozen? ⟨g,j,none⟩=false:=fun j=>zh hb15
  clear hd hwin hap hw15 hw14 hkw ho14 hb15 d13 hg1 hg2
  change wpList _ _ _ [_] _ _
  go_upto_region 4 with fail
  change Code.wp _ _ _ _ (bp w2 g k3 m3 s3 (.slice p3 i3 c3) (.slice q3 j3 e3))
  have Gk:Hid (zb [g] w2 (bp w2 g k3 m3 s3 (.slice p3 i3 c3) (.slice q3 j3 e3))):=qI (ja _ _ _ _ _ _ _)
  have Jf:=qI (vP HB.o k3 m3 s3 (.slice p3 i3 c3) (.slice q3 j3 e3))
  have Gj:Hid (zb [] w (bp w2 g k3 m3 s3 (.slice p3 i3 c3) (.slice q3 j3 e3))):=qI (((Gd.o.then Gc.o).then Je.o).trans Gk.o (by intro i hi;simp at hi;subst hi;exact .inr (by have:=HG.o;omega)))
  have Jg:=qI (Gk.o.heap (Je.o.heap (Gc.o.heap Jp.o Wz) Wz) (by have:=HG.o;simp;omega))
  have Jh:=qI (HO.o.kept Gk.o (fun i hi hS=>by simp at hi;subst hi;exact (Mi.o _ hS).1 rfl))
  rw [d15]
  clear r0 r1 r2 r3 r4 z d14 d15
  revert Gk Jf Gj Jg Jh
  generalize bp w2 g k3 m3 s3 (.slice p3 i3 c3) (.slice q3 j3 e3)=w4
  intro Gk Jf Gj Jg Jh
  have Mj:Hid (∀ (g:Nat) (w2:World),zb [] w4 w2→Slc w2 6 (.slice (some ⟨g,0,none⟩) 3 3) 3 [.string ⟨#[107,101,121,116,121,112,101]⟩,.int .i64 4,.int .i64 0,.string ⟨#[108,97,109,112,111,114,116,45,109,101,114,107,108,101]⟩,.slice none 0 0,.slice none 0 0,.string ⟨#[115,99,104,101,109,101]⟩,.int .i64 4,.int .i64 0,.string ⟨#[115,104,97,50,53,54]⟩,.slice none 0 0,.slice none 0 0,.string ⟨#[107,101,121,118,97,108]⟩,.int .i64 k3,.int .i64 m3,.string s3,.slice p3 i3 c3,.slice q3 j3 e3]→Calls Tryz.prog 112 #[.slice (some ⟨g,0,none⟩) 3 3] w2 fun e w'=>New 3 w2 w' e (ka k)∧zb [] w2 w'):=qI (fun g w2 hk hs2=>by
   refine JI (n:=2) (S:=fun _=>True) (m:=(ka k).m) (mcs:=[(⟨#[107,101,121,116,121,112,101]⟩,[.int .i64 4,.int .i64 0,.string ⟨#[108,97,109,112,111,114,116,45,109,101,114,107,108,101]⟩,.slice none 0 0,.slice none 0 0]),(⟨#[115,99,104,101,109,101]⟩,[.int .i64 4,.int .i64 0,.string ⟨#[115,104,97,50,53,54]⟩,.slice none 0 0,.slice none 0 0]),(⟨#[107,101,121,118,97,108]⟩,[.int .i64 k3,.int .i64 m3,.string s3,.slice p3 i3 c3,.slice q3 j3 e3])]) hs2 ?_ (small_key k Gi.o)
   exact zH.cons ⟨rfl,bB (n:=1) _ _ _⟩ (zH.cons ⟨rfl,bB (n:=1) _ _ _⟩ (zH.cons ⟨rfl,(Jh.o.rep.kept0 hk).mono (fun _ _ _=>trivial)⟩ (zH.nil _))))
  refine zK (n:=31) 8 [fI (.agg #[.int .i64 4,.int .i64 0,.string ⟨#[108,97,109,112,111,114,116,45,109,101,114,107,108,101]⟩,.slice none 0 0,.slice none 0 0]),
   fI (.agg #[.string ⟨#[107,101,121,116,121,112,101]⟩,.int .i64 4,.int .i64 0,.string ⟨#[108,97,109,112,111,114,116,45,109,101,114,107,108,101]⟩,.slice none 0 0,.slice none 0 0]),
   fI (.agg #[.int .i64 4,.int .i64 0,.string ⟨#[115,104,97,50,53,54]⟩,.slice none 0 0,.slice none 0 0]),
   fI (.agg #[.string ⟨#[115,99,104,101,109,101]⟩,.int .i64 4,.int .i64 0,.string ⟨#[115,104,97,50,53,54]⟩,.slice none 0 0,.slice none 0 0]),
   fI (.agg #[.int .i64 k3,.int .i64 m3,.string s3,.slice p3 i3 c3,.slice q3 j3 e3]),
   fI (.agg #[.string ⟨#[107,101,121,118,97,108]⟩,.int .i64 k3,.int .i64 m3,.string s3,.slice p3 i3 c3,.slice q3 j3 e3]),
   xD [.string ⟨#[107,101,121,116,121,112,101]⟩,.int .i64 4,.int .i64 0,.string ⟨#[108,97,109,112,111,114,116,45,109,101,114,107,108,101]⟩,.slice none 0 0,.slice none 0 0,.string ⟨#[115,99,104,101,109,101]⟩,.int .i64 4,.int .i64 0,.string ⟨#[115,104,97,50,53,54]⟩,.slice none 0 0,.slice none 0 0,.string ⟨#[107,101,121,118,97,108]⟩,.int .i64 k3,.int .i64 m3,.string s3,.slice p3 i3 c3,.slice q3 j3 e3] 3 6,
   newFact 3 (ka k)] Wr rfl Wr (fun x=>yH) ?_ ?_
  ·refine⟨?_,?_,?_,?_,?_,?_,?_,?_,trivial⟩ <;> intro x w2 hkw b hd
   ·have CX:=ZA ⟨#[108,97,109,112,111,114,116,45,109,101,114,107,108,101]⟩ w2
    go_wp2_with (go_at_call 115;refine CX.mh ?_;rintro e w3 rfl Ga)
    exact⟨rfl,Ga.o⟩
   ·have d0:x 0=_:=hd 0 Wr
    have CX:=bj ⟨#[107,101,121,116,121,112,101]⟩ 4 0 ⟨#[108,97,109,112,111,114,116,45,109,101,114,107,108,101]⟩ none 0 0 none 0 0 w2
    go_wp2_with (go_at_call 113;refine CX.mh ?_;rintro e w3 rfl Ga)
    exact⟨rfl,Ga.o⟩
   ·have CX:=ZA ⟨#[115,104,97,50,53,54]⟩ w2
    go_wp2_with (go_at_call 115;refine CX.mh ?_;rintro e w3 rfl Ga)
    exact⟨rfl,Ga.o⟩
   ·have d2:x 2=_:=hd 2 Wr
    have CX:=bj ⟨#[115,99,104,101,109,101]⟩ 4 0 ⟨#[115,104,97,50,53,54]⟩ none 0 0 none 0 0 w2
    go_wp2_with (go_at_call 113;refine CX.mh ?_;rintro e w3 rfl Ga)
    exact⟨rfl,Ga.o⟩
   ·obtain⟨y0,y1,y2,y3,y4⟩:=jt (hkw.heap Jf.o Wz)
    exact ze
   ·have d4:x 4=_:=hd 4 Wr
    have CX:=bj ⟨#[107,101,121,118,97,108]⟩ k3 m3 s3 p3 i3 c3 q3 j3 e3 w2
    go_wp2_with (go_at_call 113;refine CX.mh ?_;rintro e w3 rfl Ga)
    exact⟨rfl,Ga.o⟩
   ·have d1:x 1=_:=hd 1 Wr
    have d3:x 3=_:=hd 3 Wr
    have d5:x 5=_:=hd 5 Wr
    go_wp2_with fail
    exact⟨⟨_,rfl,Nat.le_refl _,Wz,zT w2 [.string ⟨#[107,101,121,116,121,112,101]⟩,.int .i64 4,.int .i64 0,.string ⟨#[108,97,109,112,111,114,116,45,109,101,114,107,108,101]⟩,.slice none 0 0,.slice none 0 0,.string ⟨#[115,99,104,101,109,101]⟩,.int .i64 4,.int .i64 0,.string ⟨#[115,104,97,50,53,54]⟩,.slice none 0 0,.slice none 0 0,.string ⟨#[107,101,121,118,97,108]⟩,.int .i64 k3,.int .i64 m3,.string s3,.slice p3 i3 c3,.slice q3 j3 e3] 6 3 _ _ rfl rfl Wo⟩,Wd.alloc _⟩
   ·obtain⟨gx,d6,-,-,hs6⟩:=hd 6 Wr
    have CX:=Mj.o gx w2 hkw hs6
    clear hs6
    go_wp2_with (go_at_call 112;refine CX.mono ?_;rintro e w3 ⟨hn3,hk3⟩;obtain⟨k6,m6,s6,p6,i6,c6,q6,j6,e6,rfl,ho3⟩:=Kv hn3;have Gt:=qI ho3;have Ga:=qI hk3;clear hk3 ho3 hn3)
    exact⟨⟨_,_,_,_,_,_,_,_,_,rfl,Gt.o⟩,Ga.o⟩
  ·intro x w5 hkw b hd hwin
   obtain⟨k6,m6,s6,p6,i6,c6,q6,j6,e6,d7,ho7⟩:=hd 7 Wo
   have hw7:=hwin.1 7 Wo
   have Mk:=qI ho7
   have Ji:=qI hkw
   have Ml:=qI hw7
   have Gn:=qI (hkw.heap Jg.o Wz)
   have r0:=za (o:=0) (v:=.int .i64 0) Gn.o rfl
   have r1:=za (o:=1) (v:=.int .i64 0) Gn.o rfl
   have r2:=za (o:=2) (v:=.string ⟨#[]⟩) Gn.o rfl
   have r3:=za (o:=3) (v:=.slice none 0 0) Gn.o rfl
   have r4:=za (o:=4) (v:=.slice none 0 0) Gn.o rfl
   have z:∀ j,w5.frozen? ⟨w.heap.size+1,j,none⟩=false:=fun j=>zh Gn.o
   clear hd hwin hw7 hkw ho7
   change wpList _ _ _ [_] _ _
   go_wp2_with fail
   change bodyPost _ _ _ _ _ (bp w5 (w.heap.size+1) k6 m6 s6 (.slice p6 i6 c6) (.slice q6 j6 e6))
   have Ge:=ja w5 (w.heap.size+1) k6 m6 s6 (.slice p6 i6 c6) (.slice q6 j6 e6)
   have Gf:=vP Gn.o k6 m6 s6 (.slice p6 i6 c6) (.slice q6 j6 e6)
   revert Ge Gf
   generalize bp w5 (w.heap.size+1) k6 m6 s6 (.slice p6 i6 c6) (.slice q6 j6 e6)=WF
   intro Ge Gf
   obtain⟨z0,z1,z2,z3,z4⟩:=jt Gf
   refine bodyPost_ret (v:=.agg #[.int .i64 k6,.int .i64 m6,.string s6,.slice p6 i6 c6,.slice q6 j6 e6]) (by simp [results,results81,go_sem,z0,z1,z2,z3,z4]) rfl ⟨?_,(Gj.o.then Ji.o).trans Ge (by intro i hi;simp at hi;subst hi;exact .inr Wz)⟩
   rw [Jc.o]
   have hs4:=Gj.o.size
   have hw:=Ml.o
   have hs0:=Jq.o
   have hsz4:w.heap.size+2≤w4.heap.size:=by have:=Gc.o.size;have:=Je.o.size;have:=Gk.o.size;omega
   exact⟨_,rfl,(Mk.o.kept Ge (by intro k hk;simp at hk;subst hk;omega)).mono (fun g ⟨h5,h6⟩=>⟨Ws,Nat.lt_of_lt_of_le (Nat.lt_of_lt_of_le h6 hw.2.2) Ge.size⟩)⟩
def xz (l:List UInt8):List UInt8:=qP l.length 4++l
def vF (tag:List UInt8) (ps:List (List UInt8)):List UInt8:=zV ((tag::ps).map xz).flatten
theorem j0 (t:List UInt8) (ps:List (List UInt8)):(vF t ps).length=32:=yt _
def tMsg:List UInt8:=[108,97,109,112,111,114,116,32,109,101,115,115,97,103,101]
def tSec:List UInt8:=[108,97,109,112,111,114,116,32,115,101,99,114,101,116]
def Kh:List UInt8:=[108,97,109,112,111,114,116,32,107,101,121]
def tNode:List UInt8:=[109,101,114,107,108,101,32,110,111,100,101]
def kh (m:List UInt8):List UInt8:=vF tMsg [m]
theorem Y4 (m:List UInt8):(kh m).length=32:=j0 _ _
def yT (d:List UInt8) (b:Nat):Nat:=(d.getD (b/8) 0).toNat/2 ^ (7-b%8)%2
theorem ZW (d:List UInt8) (b:Nat):yT d b<2:=Nat.mod_lt _ Wo
def zZ (seed:List UInt8) (leaf bit side:Nat):List UInt8:=vF tSec [seed,qP leaf 4,qP bit 2,[UInt8.ofNat side]]
theorem jY (seed:List UInt8) (leaf bit side:Nat):(zZ seed leaf bit side).length=32:=j0 _ _
def Qu (seed:List UInt8) (leaf b:Nat):List UInt8:=zV (zZ seed leaf b 0)++zV (zZ seed leaf b 1)
def ZL (seed:List UInt8) (leaf bits:Nat):List UInt8:=vF Kh [((List.range bits).map (Qu seed leaf)).flatten]
theorem kJ (seed:List UInt8) (leaf bits:Nat):(ZL seed leaf bits).length=32:=j0 _ _
structure ZD where
 rev:List (List UInt8)
 oth:List (List UInt8)
def yC (l:List (List UInt8)):Prop:=∀ x,x∈l→x.length=32
theorem yC.nil:yC []:=fun _ h=>nomatch h
theorem yC.snoc {l:List (List UInt8)}{x:List UInt8}(h:yC l) (hx:x.length=32):yC (l++[x]):=fun y hy=>by
 rcases List.mem_append.1 hy with h1 | h1
 ·exact h y h1
 ·rw [List.mem_singleton.1 h1];exact hx
theorem yC.flat {l:List (List UInt8)}(h:yC l):l.flatten.length=l.length*32:=by
 induction l with
 | nil=>rfl
 | cons x t ih=>
  rw [List.flatten_cons,List.length_append,ih (fun y hy=>h y (List.mem_cons_of_mem _ hy)),h x Wz,List.length_cons]
  omega
def revL (seed:List UInt8) (leaf:Nat) (m:List UInt8) (b:Nat):List UInt8:=zZ seed leaf b (yT (kh m) b)
def othL (seed:List UInt8) (leaf:Nat) (m:List UInt8) (b:Nat):List UInt8:=zV (zZ seed leaf b (1-yT (kh m) b))
def jA (seed:List UInt8) (leaf bits:Nat) (m:List UInt8):ZD:=⟨(List.range bits).map (revL seed leaf m),(List.range bits).map (othL seed leaf m)⟩
theorem signL_32 (seed:List UInt8) (leaf bits:Nat) (m:List UInt8):yC (jA seed leaf bits m).rev∧yC (jA seed leaf bits m).oth:=by
 refine⟨fun x hx=>?_,fun x hx=>?_⟩
 ·obtain⟨b,-,rfl⟩:=List.mem_map.1 hx
  exact jY _ _ _ _
 ·obtain⟨b,-,rfl⟩:=List.mem_map.1 hx
  exact yt _
def bA (m:List UInt8) (o:ZD) (b:Nat):List UInt8:=
 if yT (kh m) b=0 then zV (o.rev.getD b [])++o.oth.getD b [] else o.oth.getD b []++zV (o.rev.getD b [])
def xG (m:List UInt8) (o:ZD):List UInt8:=vF Kh [((List.range o.rev.length).map (bA m o)).flatten]
theorem kK (m:List UInt8) (o:ZD):(xG m o).length=32:=j0 _ _
theorem impl_sign (seed:List UInt8) (leaf bits:Nat) (m:List UInt8):xG m (jA seed leaf bits m)=ZL seed leaf bits:=by
 unfold xG ZL
 have e:(jA seed leaf bits m).rev.length=bits:=by simp [jA]
 rw [e]
 congr 3
 apply List.map_congr_left
 intro b hb
 have hb:=List.mem_range.1 hb
 have h1:(jA seed leaf bits m).rev.getD b []=revL seed leaf m b:=by
  simp [jA,List.getD,hb]
 have h2:(jA seed leaf bits m).oth.getD b []=othL seed leaf m b:=by
  simp [jA,List.getD,hb]
 unfold bA Qu
 rw [h1,h2,revL,othL]
 have h3:=ZW (kh m) b
 by_cases h0:yT (kh m) b=0
 ·rw [if_pos h0,h0]
 ·have h4:yT (kh m) b=1:=by omega
  rw [if_neg h0,h4]
def jr (o:ZD) (b:Nat):List UInt8:=o.rev.getD b []++o.oth.getD b []
def jn (o:ZD):List UInt8:=((List.range o.rev.length).map (jr o)).flatten
def vy (n k:Nat) (l:List UInt8):List (List UInt8):=(List.range k).map fun i=>(l.drop (n*i)).take n
theorem K3 (n k:Nat) (l:List UInt8):(vy n k l).length=k:=by simp [vy]
theorem cutL_32 {n k:Nat}{l:List UInt8}(h:l.length=n*k):∀ x,x∈vy n k l→x.length=n:=fun x hx=>by
 obtain⟨i,hi,rfl⟩:=List.mem_map.1 hx
 have hi:=List.mem_range.1 hi
 have h1:n*(i+1)≤n*k:=Nat.mul_le_mul_left n hi
 rw [Nat.mul_add] at h1
 simp
 omega
theorem Qz (n:Nat):∀ (ls:List (List UInt8)),(∀ x,x∈ls→x.length=n)→vy n ls.length ls.flatten=ls
 | [],_=>rfl
 | x::t,h=>by
  have hx:=h x Wz
  have ih:=Qz n t (fun y hy=>h y (List.mem_cons_of_mem _ hy))
  unfold vy at ih ⊢
  rw [List.length_cons,List.range_succ_eq_map,List.map_cons,List.map_map,List.flatten_cons]
  congr 1
  ·simp [← hx]
  ·conv=>rhs;rw [← ih]
   apply List.map_congr_left
   intro i _
   show List.take n (List.drop (n*(i+1)) (x++t.flatten))=_
   rw [Nat.mul_add,Nat.mul_one,Nat.add_comm,← List.drop_drop]
   congr 2
   rw [← hx,List.drop_left]
def jD (k:Nat) (l:List UInt8):ZD:=⟨(vy 64 k l).map (List.take 32),(vy 64 k l).map (List.drop 32)⟩
theorem decO_32 {k:Nat}{l:List UInt8}(h:l.length=64*k):yC (jD k l).rev∧yC (jD k l).oth:=by
 refine⟨fun x hx=>?_,fun x hx=>?_⟩
 ·obtain⟨y,hy,rfl⟩:=List.mem_map.1 hx
  have:=cutL_32 h y hy
  rw [List.length_take];omega
 ·obtain⟨y,hy,rfl⟩:=List.mem_map.1 hx
  have:=cutL_32 h y hy
  rw [List.length_drop];omega
theorem Y6 (k:Nat) (l:List UInt8):(jD k l).rev.length=k∧(jD k l).oth.length=k:=by simp [jD,K3]
theorem jP {o:ZD}(h1:yC o.rev) (h2:yC o.oth) (hl:o.oth.length=o.rev.length) {b:Nat}(hb:b<o.rev.length):(o.rev.getD b []).length=32∧(o.oth.getD b []).length=32:=by
 refine⟨?_,?_⟩
 ·rw [List.getD,List.getElem?_eq_getElem hb];exact h1 _ (List.getElem_mem _)
 ·rw [List.getD,List.getElem?_eq_getElem Ws];exact h2 _ (List.getElem_mem _)
theorem QA {o:ZD}(h1:yC o.rev) (h2:yC o.oth) (hl:o.oth.length=o.rev.length):(jn o).length=64*o.rev.length:=by
 unfold jn
 have:∀ k,k≤o.rev.length→((List.range k).map (jr o)).flatten.length=64*k:=by
  intro k
  induction k with
  | zero=>intro _;rfl
  | succ k ih=>
   intro hk
   have h3:=jP h1 h2 hl (b:=k) Ws
   rw [List.range_succ,List.map_append,List.flatten_append,List.length_append,ih Ws]
   simp only [List.map_cons,List.map_nil,List.flatten_cons,List.flatten_nil,List.append_nil,jr,List.length_append]
   omega
 exact this _ (Nat.le_refl _)
theorem dec_code {o:ZD}(h1:yC o.rev) (h2:yC o.oth) (hl:o.oth.length=o.rev.length):jD o.rev.length (jn o)=o:=by
 have hc:vy 64 o.rev.length (jn o)=(List.range o.rev.length).map (jr o):=by
  have h3:=Qz 64 ((List.range o.rev.length).map (jr o)) (fun x hx=>by
   obtain⟨b,hb,rfl⟩:=List.mem_map.1 hx
   have h4:=jP h1 h2 hl (List.mem_range.1 hb)
   rw [jr,List.length_append];omega)
  rw [List.length_map,List.length_range] at h3
  exact h3
 cases o with
 | mk rev oth=>
  simp only at hl h1 h2 hc ⊢
  unfold jD
  rw [hc]
  congr 1
  ·apply List.ext_getElem
   ·simp
   ·intro i hi1 hi2
    have h4:=jP (o:=⟨rev,oth⟩) h1 h2 hl hi2
    simp only at h4
    simp only [List.getElem_map,List.getElem_range,jr]
    rw [List.take_append_of_le_length Ws,List.take_of_length_le Ws]
    simp [List.getD,hi2]
  ·apply List.ext_getElem
   ·simp [hl]
   ·intro i hi1 hi2
    have h4:=jP (o:=⟨rev,oth⟩) (b:=i) h1 h2 hl (by simp only;omega)
    simp only at h4
    simp only [List.getElem_map,List.getElem_range,jr]
    rw [List.drop_append_of_le_length Ws,List.drop_of_length_le Ws,List.nil_append]
    simp [List.getD,hi2]
def yO (a b:List UInt8):List UInt8:=vF tNode [a,b]
theorem yP (a b:List UInt8):(yO a b).length=32:=j0 _ _
def xQ:List UInt8→Nat→List (List UInt8)→List UInt8
 | x,_,[]=>x
 | x,i,y::t=>xQ (if i%2=0 then yO x y else yO y x) (i/2) t
theorem YN:∀ (t:List (List UInt8)) (x:List UInt8) (i:Nat),x.length=32→(xQ x i t).length=32
 | [],_,_,h=>h
 | y::t,x,i,_=>YN t _ _ (by split <;> exact yP _ _)
structure SigS where
 leaf:Nat
 one:ZD
 way:List (List UInt8)
def jG (l:List UInt8):Nat:=l.foldl (fun n c=>n*256+c.toNat) 0
theorem numB_snoc (l:List UInt8) (c:UInt8):jG (l++[c])=jG l*256+c.toNat:=by simp [jG]
def xS (bits height:Nat) (b:List UInt8):SigS:=⟨jG (b.take 4),jD bits ((b.drop 4).take (64*bits)),vy 32 height ((b.drop (4+64*bits)).take (32*height))⟩
def qZ (bits height:Nat) (b:List UInt8):Bool:=decide (b.length=4+64*bits+32*height)&&decide (jG (b.take 4)≤1073741824)
def Z3 (root:List UInt8) (m:List UInt8) (s:SigS):Bool:=decide (s.leaf<2 ^ s.way.length)&&decide (xQ (xG m s.one) s.leaf s.way=root)
def xO (s:SigS):List UInt8:=qP s.leaf 4++jn s.one++s.way.flatten
theorem tySlices:yU Tryz.prog 164 53 1 24 (.slice none 0 0):=⟨underlying164,Wr,rfl,Wo⟩
theorem growS_any (n:Nat) (w:World) (hn:n≤100000) :
  Calls Tryz.prog 178 #[.slice none 0 0,.int .i64 n] w fun e w'=>∃ v',e = .returned v'∧w'.ownsRow w.heap.size 53 1 v' 0 []∧zb [] w w':=by
 obtain⟨i,hi,hz,hs,hb⟩:=info_parts tySlices.info
 by_cases h0:0<n
 ·have hrun:=Lib.run_append_nil_zeros w 164 3 164 53 i (.slice none 0 0) .i64 .i64 underlying164 underlying3 hi hz n h0 Ws Ws (by rw [hb];omega)
  have hge:=grownCap_ge w n 0 53
  have hmx:=grownCap_le_maxLen w n 0 53 (by simp only [maxLen];omega)
  have hsz:(Builtin.zeroCells (Value.slice none 0 0).cells n++Builtin.zeroCells (Value.slice none 0 0).cells (grownCap w n 0 53-n)).size=grownCap w n 0 53*1:=by
   simp only [Array.size_append,size_zeroCells];simp [Value.cells];omega
  revert hrun hge hmx hsz
  generalize grownCap w n 0 53=cap
  generalize (Builtin.zeroCells (Value.slice none 0 0).cells n++Builtin.zeroCells (Value.slice none 0 0).cells (cap-n))=cs
  intro hrun hge hmx hsz
  have hmx':=qI hmx
  have hsz':=qI hsz
  have hn2:(n:Int)≤100000:=Ws
  have hr':=qI hrun
  clear hmx hsz hn hi hz hs hb hrun
  go_enter func178,ntmps178
  go_wp2_with (at_builtin;refine Lib.wpList_append_run _ rfl _ _ _ _ rfl _ _ rfl rfl _ _ hr'.o ?_)
  go_ret
  refine⟨_,rfl,⟨rfl,.inr ⟨w.heap.size,cap,cs,rfl,Nat.le_refl _,heap_alloc_new w.drew _,Nat.zero_le _,hmx'.o,hsz'.o,Wz⟩⟩,((zb.refl _ w).drew).alloc _⟩
 ·obtain rfl:n=0:=by omega
  go_enter func178,ntmps178
  go_wp2
  go_ret
  exact⟨_,rfl,World.ownsRow_nil _ _ _ _,Wd⟩
theorem concatS_any (g o cap:Nat) (vals:List Value) (ls:List (List Value)) (w:World) (hrow:Row w g o vals) (hall:zH (fun v l=>Slc w 1 v l.length l) vals ls) (h1:∀ l,l∈ls→∀ u∈l,u.oneCell'=true) (hsum:ls.flatten.length≤100000) (hk:vals.length≤100000) :
  Calls Tryz.prog 141 #[.slice (some ⟨g,o,none⟩) vals.length cap] w fun e w'=>∃ v',e = .returned v'∧w'.ownsRow w.heap.size 53 1 v' ls.flatten.length ls.flatten∧zb [] w w':=by
 have hle:∀ j,(ls.take j).flatten.length≤100000:=fun j=>by have:=jJ ls j;omega
 have hlen:=hall.1
 have Hle:=qI hle
 have Hlen:=qI hlen
 have Hsum:=qI hsum
 have H1:=qI h1
 have hkI:(vals.length:Int)≤100000:=Ws
 clear hle hlen hsum hk h1
 go_enter func141,ntmps141
 go_wp2_with fail
 go_loop [3,11] (fun s i=>∃ k:Nat,k≤vals.length∧i = .int .i64 k∧s = .int .i64 (ls.take k).flatten.length) (fun _ i=>vals.length-(intOf i).toNat)
 case atStart=>exact⟨0,Nat.zero_le _,rfl,Wz⟩
 case round=>
  obtain⟨k,hk,rfl,rfl⟩:=hrel
  by_cases hlt:k<vals.length
  ·have hlt2:k<ls.length:=by rw [← Hlen.o];exact hlt
   have hc:=hrow.at hlt
   have hb:=hall.2 k vals[k] ls[k] (by simp [hlt]) (by simp [hlt2])
   have hb':=qI hb
   obtain⟨a1,c1,hv,-,-⟩:=hb.form
   rw [hv] at hc
   have hs:=qI (ql ls k hlt2)
   have l1:=Hle.o k
   have l2:=Hle.o (k+1)
   have l3:(ls.take k).flatten.length+ls[k].length≤100000:=by rw [hs.o,List.length_append] at l2;exact l2
   clear hb hv l2
   revert l1 l3 hs
   generalize hn1:(ls.take k).flatten.length=n1
   generalize hn2:ls[k].length=n2 at hc ⊢
   intro hs l1 l3
   have Hn1:=qI hn1
   have Hn2:=qI hn2
   clear hn1 hn2
   go_wp2_with fail
   go_round
   case rel=>
    refine⟨k+1,Ws,by go_num,?_⟩
    rw [hs.o,List.length_append,Hn1.o,Hn2.o]
    go_num
   case measure=>simp [intOf];omega
  ·obtain rfl:k=vals.length:=by omega
   have e1:ls.take vals.length=ls:=by rw [Hlen.o];exact List.take_length
   rw [e1]
   have l0:=Hle.o vals.length
   rw [e1] at l0
   clear e1
   revert l0
   generalize hN:ls.flatten.length=N
   intro l0
   have HN:=qI hN
   clear hN
   have hg:=growS_any N w l0
   have Hg:=qI hg
   clear hg
   go_wp2_with (go_at_call 178;refine Hg.o.mono ?_;rintro e w1 ⟨v1,rfl,hown1,hk1⟩)
   clear Hg
   go_loopw [6,27] (fun v i wr=>∃ k:Nat,k≤vals.length∧i = .int .i64 k∧wr.ownsRow w.heap.size 53 1 v (ls.take k).flatten.length (ls.take k).flatten∧zb [] w wr) (fun _ i _=>vals.length-(intOf i).toNat)
   case atStart=>exact⟨0,Nat.zero_le _,rfl,by simpa using hown1,hk1⟩
   case round=>
    obtain⟨k,hk,rfl,hown,hkr⟩:=hrel
    by_cases hlt:k<vals.length
    ·have hlt2:k<ls.length:=by rw [← Hlen.o];exact hlt
     have hc:=(hrow.kept hkr Wz).at hlt
     have hb:=(hall.2 k vals[k] ls[k] (by simp [hlt]) (by simp [hlt2])).kept0 hkr
     have hs:=qI (ql ls k hlt2)
     have l1:=Hle.o (k+1)
     rw [hs.o,List.length_append] at l1
     have l2:=qI l1
     clear l1
     have hbase:=hkr.size
     have Hown:=qI hown
     clear hown
     go_wp2_with (at_builtin;refine zk tySlices Hown.o hb (H1.o _ (List.getElem_mem _)) (by have:=l2.o;simp only [maxLen];omega) (by have:=l2.o;omega) hbase rfl _ _ rfl rfl rfl ?_;intro v' w2 hown2 hk2 _ hb2)
     go_roundw
     case rel=>
      refine⟨k+1,Ws,by go_num,?_,hkr.trans hk2 ?_⟩
      ·rw [hs.o,List.length_append];exact hown2
      ·intro i hi
       exact .inr ((World.ownsRow.lt Hown.o i (Option.mem_toList.1 hi)).1)
     case measure=>simp [intOf];omega
    ·obtain rfl:k=vals.length:=by omega
     have e1:ls.take vals.length=ls:=by rw [Hlen.o];exact List.take_length
     rw [e1] at hown
     have Hown:=qI hown
     clear hown e1
     go_wp2
     go_ret
     exact⟨_,rfl,by rw [← HN.o];exact Hown.o,hkr⟩
theorem Qi (l:List UInt8):(xz l).length=4+l.length:=by rw [xz,List.length_append,xu]
theorem octText_any (s:ByteArray) (hs:s.size≤1048576) (w:World):Calls Tryz.prog 142 #[.string s] w fun e w'=>(∃ a c,e = .returned (.tuple #[.slice a (xz s.data.toList).length c,.int .i64 0])∧qe w w' (.slice a (xz s.data.toList).length c) (xz s.data.toList))∧zb [] w w':=by
 have CP:=qI (YS s.size 4 w Wo Wo (.inr Ws))
 have HL:Hid (s.data.toList.length=s.size):=qI Wz
 have Mm:Hid ((xz s.data.toList).length=4+s.size):=qI (by rw [Qi,HL.o])
 have Mn:Hid (((qP s.size 4).map bv++Lib.strCells s)=(xz s.data.toList).map bv):=qI (by rw [xz,List.map_append,HL.o];rfl)
 obtain⟨i0,hi,hz0,hz1,hz2⟩:=info_parts xV.info
 have HI:=qI hi
 have HZ:=qI (And.intro hz0 (And.intro hz1 hz2))
 have hsI:(s.size:Int)≤1048576:=Ws
 have Gy:=qI hs
 generalize hN:(xz s.data.toList).length=N
 have HN:=qI hN
 clear hi hz0 hz1 hz2 hs hN
 go_enter func142,ntmps142
 go_wp2_with first
  | (go_at_call 80;refine CP.o.mono ?_;rintro e w1 ⟨a1,c1,rfl,hown1,hk1⟩;have Ju:=qI hown1;have Gc:=qI hk1;clear hown1 hk1)
  | (at_builtin;refine Lib.wpList_append_own_string _ rfl _ _ 53 9 rfl w.heap.size 5 i0 underlying53 underlying9 HI.o HZ.o.1 HZ.o.2.1 HZ.o.2.2 (.slice a1 4 c1) 4 _ rfl Ju.o s rfl (by have:=Gy.o;simp only [maxLen];omega) (by have:=Gy.o;omega) Gc.o.size ?_;intro v2 w2 hown2 hg2 _;rw [Mn.o,← Mm.o,HN.o] at hown2;obtain⟨a2,c2,rfl,-,-⟩:=(Slc.of_row hown2).form;have Mo:=qI hown2;have Mp:=qI hg2;clear hown2 hg2)
 go_ret2
 exact⟨⟨_,_,rfl,qx Mo.o⟩,Gc.o.grown Mp.o (fun k hk=>.inr (Ju.o.lt k hk).1)⟩
end Go.Proofs.YtibnfbglanpoiaaGreatDoor

/- Parts of one proof, merged: XKA XKB XKC. -/
import Derived.Test.YtibnfbglanpoiaaGreatDoorQeC
import Derived.Deep.DeepCutAuto
import Derived.Deep.CutBlock
set_option linter.all false
set_option maxHeartbeats 12800000
set_option maxRecDepth 10000
namespace Go.Proofs.YtibnfbglanpoiaaGreatDoor
open Go.Proofs.Tryz
open Go.RowKit
structure qq (w:World) (g:Nat) (k m:Int) (s:ByteArray) (a b:Value):Prop where
 c0:w.cell? ⟨g,0,none⟩=some (.int .i64 k)
 c1:w.cell? ⟨g,1,none⟩=some (.int .i64 m)
 c2:w.cell? ⟨g,2,none⟩=some (.string s)
 c3:w.cell? ⟨g,3,none⟩=some a
 c4:w.cell? ⟨g,4,none⟩=some b
theorem xr (w:World) (k m:Int) (s:ByteArray) (a b:Value) (t:Nat):qq (w.alloc (.cells #[.int .i64 k,.int .i64 m,.string s,a,b] t)) w.heap.size k m s a b:=by
 have hb:=heap_alloc_new w (.cells #[.int .i64 k,.int .i64 m,.string s,a,b] t)
 exact⟨za hb rfl,za hb rfl,za hb rfl,za hb rfl,za hb rfl⟩
theorem qq.kept {w w':World}{g:Nat}{k m:Int}{s:ByteArray}{a b:Value}(h:qq w g k m s a b) {X:List Nat}(hk:zb X w w') (hX:g ∉ X):qq w' g k m s a b:=
 ⟨hk.cell h.c0 hX,hk.cell h.c1 hX,hk.cell h.c2 hX,hk.cell h.c3 hX,hk.cell h.c4 hX⟩
theorem qq.kept0 {w w':World}{g:Nat}{k m:Int}{s:ByteArray}{a b:Value}(h:qq w g k m s a b) (hk:zb [] w w'):qq w' g k m s a b:=h.kept hk Wz
def BB:Nat:=1125899906842624
theorem KW {n d:Nat}{v:V n}(h:qV BB n v) (hd:d≤21):zG n d v≤50000000000000000:=by
 have h1:=large_le (B:=BB) n d v h
 have h2:(22-d)*(20000+2*BB)≤22*(20000+2*BB):=Nat.mul_le_mul_right _ Ws
 have h3:BB=1125899906842624:=rfl
 rw [h3] at h1 h2
 omega
def vf (n : Nat) : Prop := ∀ (v : V n) {S : Nat → Prop} {w : World} {cs : List Value} {d : Nat}, Rep n S w cs v → qV BB n v → d ≤ 21 →
    Calls Tryz.prog 67 #[.agg cs.toArray,.int .i64 d] w fun e w'=>e = .returned (.int .i64 (zG n d v))∧zb [] w w'
set_option maxHeartbeats 16000000 in
theorem Kq {n:Nat}(known:vf n):vf (n+1):=fun (v:VS (V n)) {S}{w}{cs}{d} h ht hd=>by
  obtain⟨vl,vm,lcs,mcs,h⟩:=h
  obtain⟨a,c,b,e,rfl,rfl,rfl⟩:=h.forms
  have H:=qI h
  have HT:=qI ht
  have IH:=qI known
  have heq:Hid (zG (n+1) d v=if 20<d∨3000<v.l.length+v.m.length then 10000 else goL (ki (zG n (d+1))) (goL (zG n (d+1)) (1+v.s.size/10) v.l) v.m):=qI rfl
  have hbox:=xr w v.kind v.num v.s (.slice a v.l.length c) (.slice b v.m.length e) 25
  obtain⟨⟨ht1,ht2,ht3⟩,-,-⟩:=ht
  simp only [BB] at ht1 ht2 ht3
  have hsum:IntKind.i64.wrap ((v.l.length:Int)+v.m.length)=(v.l.length:Int)+v.m.length:=by
   rw [IntKind.wrap_i64] <;> omega
  clear h
  obtain⟨c0,c1,c2,c3,c4⟩:=hbox
  by_cases hd20:20<d
  ·have hd':(20:Int)<d:=by omega
   go_enter func67,ntmps67
   go_wp2_with fail
   go_ret
   rw [heq.o,if_pos (.inl hd20)]
   exact⟨rfl,(zb.refl _ w).alloc _⟩
  by_cases hmany:3000<v.l.length+v.m.length
  ·have hd':(d:Int)≤20:=by omega
   have hm':(3000:Int)<(v.l.length:Int)+v.m.length:=Ws
   go_enter func67,ntmps67
   go_wp2_with fail
   go_ret
   rw [heq.o,if_pos (.inr hmany)]
   exact⟨rfl,(zb.refl _ w).alloc _⟩
  have heq:=qI (heq.o.trans (if_neg Ws))
  have hd':(d:Int)≤20:=Ws
  have hm':(v.l.length:Int)+v.m.length≤3000:=Ws
  have hquo:((v.s.size:Int)).tdiv 10=((v.s.size/10:Nat):Int):=by rw [Int.tdiv_eq_ediv_of_nonneg Ws];omega
  go_enter func67,ntmps67
  go_upto_block 0 with fail
  go_cut [5,6] from 25 to 45 (fun x i wr=>(∃ k:Nat,i = .int .i64 k)∧∃ X:Nat,x = .int .i64 X∧X≤60000000000000000∧X=goL (zG n (d+1)) (1+v.s.size/10) v.l∧zb [] (w.alloc (.cells #[.int .i64 v.kind,.int .i64 v.num,.string v.s,.slice a v.l.length c,.slice b v.m.length e] 25)) wr)
  case first=>
   go_wp2_with fail
   go_loopw [5,6] (fun x i wr=>∃ k X:Nat,i = .int .i64 k∧k≤v.l.length∧x = .int .i64 X∧X≤60000000000000000∧goL (zG n (d+1)) X (v.l.drop k)=goL (zG n (d+1)) (1+v.s.size/10) v.l∧zb [] (w.alloc (.cells #[.int .i64 v.kind,.int .i64 v.num,.string v.s,.slice a v.l.length c,.slice b v.m.length e] 25)) wr) (fun _ i _=>v.l.length-(intOf i).toNat)
   case atStart=>exact⟨0,1+v.s.size/10,rfl,Nat.zero_le _,by go_num,Ws,rfl,Wd⟩
   case round=>
    obtain⟨k,X,rfl,hk,rfl,hX,hg,hkr⟩:=hrel
    have Gc:=qI (((zb.refl [] w).alloc _).trans' hkr)
    obtain⟨b0,b1,b2,b3,b4⟩:=(xr w v.kind v.num v.s (.slice a v.l.length c) (.slice b v.m.length e) 25).kept0 hkr
    have Ga:=qI hkr
    clear c0 c1 c2 c3 c4 hkr
    by_cases hgo:k<v.l.length∧X≤6000
    ·obtain⟨hlt,hx⟩:=hgo
     have hltI:(k:Int)<v.l.length:=Ws
     have hxI:(X:Int)≤6000:=Ws
     obtain⟨g,o,cap,kd,nm,st,a1,b1',he,q0,q1,q2,q3,q4,hr⟩:=H.o.at_l Gc.o k hlt
     simp only [Value.slice.injEq] at he
     obtain⟨rfl,-,rfl⟩:=he
     have hkT:=HT.o.2.2 _ (kZ (List.getElem_mem hlt))
     have cl:=IH.o v.l[k] (d:=d+1) hr hkT Ws
     rw [show ((d+1:Nat):Int)=(d:Int)+1 from rfl] at cl
     have CL:=qI cl
     have hY:=KW (d:=d+1) hkT Ws
     have HD:Hid (goL (zG n (d+1)) (X+zG n (d+1) v.l[k]) (v.l.drop (k+1))=goL (zG n (d+1)) (1+v.s.size/10) v.l):=qI (by
      rw [← hg,List.drop_eq_getElem_cons hlt]
      conv=>rhs;unfold goL
      rw [if_pos hx])
     clear cl hr hkT hg
     revert CL hY HD
     generalize zG n (d+1) v.l[k]=Y
     intro CL hY HD
     go_wp2_with (go_at_call 67;refine CL.o.mono ?_;rintro e w2 ⟨rfl,hk2⟩)
     case roundEnd=>exact⟨⟨k+1,X+Y,by go_num,Ws,by go_num,Ws,HD.o,Ga.o.then hk2⟩,by simp [intOf];omega⟩
    ·have hXe:X=goL (zG n (d+1)) (1+v.s.size/10) v.l:=by
      rw [← hg]
      rcases Nat.lt_or_ge k v.l.length with h1 | h1
      ·exact (goL_stop _ Ws _).symm
      ·rw [List.drop_eq_nil_iff.2 h1];rfl
     have hsp:((k:Int)<v.l.length∧(6000:Int)<X)∨(v.l.length:Int)≤k:=Ws
     clear hg hgo
     have HX:=qI hXe
     clear hXe
     rcases hsp with ⟨s1,s2⟩ | s1
     all_goals
      go_wp2_with fail
      go_meet
      exact⟨⟨k,rfl⟩,X,rfl,hX,HX.o,Ga.o⟩
  case rest=>
    obtain⟨⟨k,rfl⟩,X,rfl,hX,hXe,hkr⟩:=hcut
    have HX:=qI hXe
    have Ga:=qI hkr
    clear hXe hkr c0 c1 c2 c3 c4
    obtain⟨b0,b1,b2,b3,b4⟩:=(xr w v.kind v.num v.s (.slice a v.l.length c) (.slice b v.m.length e) 25).kept0 Ga.o
    have Gc:=qI (((zb.refl [] w).alloc _).trans' Ga.o)
    go_wp2_with fail
    go_loopw [5,7] (fun x i wr=>∃ k Y:Nat,i = .int .i64 k∧k≤v.m.length∧x = .int .i64 Y∧Y≤120000000000000000∧goL (ki (zG n (d+1))) Y (v.m.drop k)=goL (ki (zG n (d+1))) X v.m∧zb [] (w.alloc (.cells #[.int .i64 v.kind,.int .i64 v.num,.string v.s,.slice a v.l.length c,.slice b v.m.length e] 25)) wr) (fun _ i _=>v.m.length-(intOf i).toNat)
    case atStart=>exact⟨0,X,rfl,Nat.zero_le _,rfl,Ws,rfl,Ga.o⟩
    case round=>
     obtain⟨k2,Y,rfl,hk2,rfl,hY,hg,hkr⟩:=hrel
     clear Ga Gc b0 b1 b2 b3 b4
     have Gc:=qI (((zb.refl [] w).alloc _).trans' hkr)
     obtain⟨b0,b1,b2,b3,b4⟩:=(xr w v.kind v.num v.s (.slice a v.l.length c) (.slice b v.m.length e) 25).kept0 hkr
     have Ga:=qI hkr
     clear hkr
     by_cases hgo:k2<v.m.length∧Y≤6000
     ·obtain⟨hlt,hx⟩:=hgo
      have hltI:(k2:Int)<v.m.length:=Ws
      have hxI:(Y:Int)≤6000:=Ws
      obtain⟨g,o,cap,kd,nm,st,a1,b1',he,q0,q1,q2,q3,q4,q5,hr⟩:=H.o.at_m Gc.o k2 hlt
      simp only [Value.slice.injEq] at he
      obtain⟨rfl,-,rfl⟩:=he
      have hkT:=HT.o.2.2 _ (k9 (List.getElem_mem hlt))
      have hkS:=HT.o.2.1 _ (List.getElem_mem hlt)
      simp only [BB] at hkS
      have hZ:=KW (d:=d+1) hkT Ws
      have HD:Hid (goL (ki (zG n (d+1))) (Y+ki (zG n (d+1)) v.m[k2]) (v.m.drop (k2+1))=goL (ki (zG n (d+1))) X v.m):=qI (by
       rw [← hg,List.drop_eq_getElem_cons hlt]
       conv=>rhs;unfold goL
       rw [if_pos hx])
      have Gb:=qI hr
      have Gt:=qI hkT
      clear hr hkT hg
      unfold ki at HD
      revert q0 Gb Gt hkS hZ HD
      generalize v.m[k2]=pr
      obtain⟨key,kid⟩:=pr
      intro q0 hkS hZ HD Gb Gt
      simp only at q0 hkS hZ HD Gb Gt
      go_wp2_with fail
      have e0:=zz b4
      have e1:=zz q0
      have CL:∀ z:Ext wr,Calls Tryz.prog 67 #[.agg #[.int .i64 kd,.int .i64 nm,.string st,a1,b1'],.int .i64 ((d:Int)+1)] z.w fun e w'=>e = .returned (.int .i64 (zG n (d+1) kid))∧zb [] z.w w':=fun z=>IH.o kid (d:=d+1) (Gb.o.kept0 z.k) Gt.o Ws
      have e2:=zz q1
      have e3:=zz q2
      have e4:=zz q3
      have e5:=zz q4
      have e6:=zz q5
      revert CL hZ HD
      generalize zG n (d+1) kid=Z
      intro hZ HD CL
      have hKS:(key.size:Int)≤1125899906842624:=Ws
      refine yn wr Wr Wr Wd ?_
      clear b0 b1 b2 b3 b4 q0 q1 q2 q3 q4 q5
      repeat go_big_quiet_step ((go_at_call 67;exact Zm (CL _)))
      refine wpQuiet_nil ?_
      intro w2 hk2'
      go_wp2_with fail
      case roundEnd=>exact⟨⟨k2+1,Y+(1+key.size/10+Z),by go_num,Ws,by go_num,Ws,HD.o,Ga.o.then hk2'⟩,by simp [intOf];omega⟩
     ·have hYe:Y=goL (ki (zG n (d+1))) X v.m:=by
       rw [← hg]
       rcases Nat.lt_or_ge k2 v.m.length with h1 | h1
       ·exact (goL_stop _ Ws _).symm
       ·rw [List.drop_eq_nil_iff.2 h1];rfl
      have hsp:((k2:Int)<v.m.length∧(6000:Int)<Y)∨(v.m.length:Int)≤k2:=Ws
      clear hg hgo
      have HY:=qI hYe
      clear hYe
      rcases hsp with ⟨t1,t2⟩ | t1
      all_goals
       go_wp2_with fail
       go_ret
       have hfin:zG (n+1) d v=Y:=by
        rw [heq.o,← HX.o]
        exact HY.o.symm
       rw [hfin]
       exact⟨rfl,Gc.o⟩
theorem b8:∀ (n:Nat),vf n
 | 0=>fun v {_}{_}{_}{_} h _ _=>h.elim
 | n+1=>Kq (b8 n)
theorem large_any:∀ (n:Nat) (v:V n) {S:Nat→Prop}{w:World}{cs:List Value}{d:Nat},Rep n S w cs v→qV BB n v→d≤21 →
  Calls Tryz.prog 67 #[.agg cs.toArray,.int .i64 d] w fun e w'=>e = .returned (.int .i64 (zG n d v))∧zb [] w w':=fun n=>b8 n
theorem tyVals:yU Tryz.prog 22 25 5 80 (.agg #[.int .i64 0,.int .i64 0,.string ByteArray.empty,.slice none 0 0,.slice none 0 0]):=⟨underlying22,Wr,Wr,Wo⟩
theorem jF:yU Tryz.prog 23 132 6 96 (.agg #[.string ByteArray.empty,.int .i64 0,.int .i64 0,.string ByteArray.empty,.slice none 0 0,.slice none 0 0]):=⟨underlying23,Wr,Wr,Wo⟩
theorem Rep.one {n:Nat}{S:Nat→Prop}{w:World}{cs:List Value}{v:V n}(h:Rep n S w cs v):∀ u∈cs,u.oneCell'=true:=by
 match n,v,h with
 | n+1,v,h=>
  obtain⟨vl,vm,lcs,mcs,h⟩:=h
  obtain⟨a,c,b,d,_,_,rfl⟩:=h.forms
  intro u hu
  simp only [List.mem_cons,List.not_mem_nil,or_false] at hu
  rcases hu with rfl | rfl | rfl | rfl | rfl <;> rfl
theorem zH.mem_left {α β:Type}{R:α→β→Prop}{xs:List α}{ys:List β}(h:zH R xs ys) {x:α}(hx:x∈xs):∃ y,y∈ys∧R x y:=by
 obtain⟨j,hj,rfl⟩:=List.getElem_of_mem hx
 have hj':j<ys.length:=by rw [← h.1];exact hj
 exact⟨ys[j],List.getElem_mem hj',h.2 j _ _ (List.getElem?_eq_getElem hj) (List.getElem?_eq_getElem hj')⟩
theorem zH.map_both {α β γ δ:Type}{R:α→β→Prop}{Q:γ→δ→Prop}{f:α→γ}{g:β→δ}{xs:List α}{ys:List β}(h:zH R xs ys) (hf:∀ x y,R x y→Q (f x) (g y)):zH Q (xs.map f) (ys.map g):=by
 refine⟨by simp [h.1],?_⟩
 intro j x z hx hz
 rw [List.getElem?_map,Option.map_eq_some_iff] at hx hz
 obtain⟨x,hx,rfl⟩:=hx
 obtain⟨y,hy,rfl⟩:=hz
 exact hf x y (h.2 j x y hx hy)
theorem flat_one {R:List Value→Prop}{ls:List (List Value)}(h:∀ c,c∈ls→∀ u∈c,u.oneCell'=true):∀ u∈ls.flatten,u.oneCell'=true:=by
 intro u hu
 obtain⟨c,hc,hu⟩:=List.mem_flatten.1 hu
 exact h c hc u hu
theorem vO {t size g base:Nat}(W:World) (hg:W.heap.size=g) (hb:base≤g):(W.alloc (.cells #[] t)).ownsRow base t size (.slice (some ⟨g,0,none⟩) 0 0) 0 []:=by
 subst hg
 exact World.ownsRow_made W #[] 0 hb Wo Wz
def kidsC (lcs:List (List Value)) (mcs:List (ByteArray×List Value)):List (List Value):=lcs++mcs.map (fun p=>p.2)
section
variable {n : Nat} {S : Nat → Prop} {w : World} {cs : List Value} {v : VS (V n)} {vl vm : Value} {lcs : List (List Value)} {mcs : List (ByteArray × List Value)}
theorem yY.kids (h:yY (Rep n S w) S w cs v vl vm lcs mcs):zH (Rep n S w) (kidsC lcs mcs) v.kids:=
 h.alll.app (h.allm.map_both fun _ _ r=>r.2)
theorem yY.ones (h:yY (Rep n S w) S w cs v vl vm lcs mcs):∀ u∈lcs.flatten,u.oneCell'=true:=
 flat_one (R:=fun _=>True) fun c hc=>by
  obtain⟨y,_,hr⟩:=h.alll.mem_left hc
  exact hr.one
end
def YO (n:Nat) (w:World) (x:Value) (vs:List (V n)):Prop:=∃ lcs,Slc w 5 x vs.length lcs.flatten∧zH (Rep n (fun _=>True) w) lcs vs
theorem Slc.at5 {w:World}{x:Value}{m:Nat}{lcs:List (List Value)}(h:Slc w 5 x m lcs.flatten) (h5:∀ c,c∈lcs→c.length=5) {j:Nat}(hj:j<lcs.length) {k i:Int}{s:ByteArray}{a b:Value}(e:lcs[j]=[.int .i64 k,.int .i64 i,.string s,a,b]) :
  ∃ g o cap,x = .slice (some ⟨g,o,none⟩) m cap∧w.cell? ⟨g,o+j*5,none⟩=some (.int .i64 k)∧w.cell? ⟨g,o+j*5+1,none⟩=some (.int .i64 i)∧w.cell? ⟨g,o+j*5+2,none⟩=some (.string s)∧w.cell? ⟨g,o+j*5+3,none⟩=some a∧w.cell? ⟨g,o+j*5+4,none⟩=some b:=by
 have hl:=bF lcs h5
 have hm:=h.1
 rcases h.2 with ⟨_,h0⟩ | ⟨h0,_⟩ | ⟨g,o,cap,hsv,_,_,hrow⟩
 ·omega
 ·omega
 have hc:∀ i,i<5→lcs.flatten[j*5+i]? = lcs[j][i]?:=fun i hi=>kM lcs j i h5 hj hi
 rw [e] at hc
 refine⟨g,o,cap,hsv,?_,?_,?_,?_,?_⟩
 ·exact hrow.cells (j*5+0) _ (hc 0 Wo)
 all_goals rw [Nat.add_assoc]
 ·exact hrow.cells (j*5+1) _ (hc 1 Wo)
 ·exact hrow.cells (j*5+2) _ (hc 2 Wo)
 ·exact hrow.cells (j*5+3) _ (hc 3 Wo)
 ·exact hrow.cells (j*5+4) _ (hc 4 Wo)
theorem YO.kept0 {n:Nat}{w w':World}{x:Value}{vs:List (V n)}(h:YO n w x vs) (k:zb [] w w'):YO n w' x vs:=by
 obtain⟨lcs,h1,h2⟩:=h
 exact⟨lcs,h1.kept0 k,h2.mono fun _ _ _ r=>r.kept0 k⟩
theorem YO.at {n:Nat}{w:World}{x:Value}{vs:List (V n)}(h:YO n w x vs) {j:Nat}(hj:j<vs.length):∃ g o cap k i s a b,x = .slice (some ⟨g,o,none⟩) vs.length cap∧w.cell? ⟨g,o+j*5,none⟩=some (.int .i64 k)∧w.cell? ⟨g,o+j*5+1,none⟩=some (.int .i64 i)∧w.cell? ⟨g,o+j*5+2,none⟩=some (.string s)∧w.cell? ⟨g,o+j*5+3,none⟩=some a∧w.cell? ⟨g,o+j*5+4,none⟩=some b∧Rep n (fun _=>True) w [.int .i64 k,.int .i64 i,.string s,a,b] vs[j]:=by
 obtain⟨lcs,h1,h2⟩:=h
 have hj':j<lcs.length:=by rw [h2.1];exact hj
 have hr:=h2.2 j _ _ (List.getElem?_eq_getElem hj') (List.getElem?_eq_getElem hj)
 obtain⟨k,i,s,a,b,e⟩:=hr.five
 obtain⟨g,o,cap,q,q0,q1,q2,q3,q4⟩:=h1.at5 (fun c hc=>by obtain⟨y,_,r⟩:=h2.mem_left hc;exact r.len) hj' e
 rw [e] at hr
 exact⟨g,o,cap,k,i,s,a,b,q,q0,q1,q2,q3,q4,hr⟩
theorem kids_any {n:Nat}{v:VS (V n)}{S:Nat→Prop}{w:World}{cs:List Value}(h:Rep (n+1) S w cs v) (hv:v.l.length+v.m.length≤20000) :
  Calls Tryz.prog 65 #[.agg cs.toArray] w fun e w'=>(∃ a c,e = .returned (.slice a v.kids.length c)∧YO n w' (.slice a v.kids.length c) v.kids)∧zb [] w w':=by
 obtain⟨vl,vm,lcs,mcs,h⟩:=h
 obtain⟨a,c,b,e,rfl,rfl,rfl⟩:=h.forms
 have H:=qI h
 have hkl:v.kids.length=v.l.length+v.m.length:=by simp [VS.kids]
 have Gd:=qI hkl
 have hlv:v.l.length≤20000:=Ws
 have hmv:v.m.length≤20000:=Ws
 have hmv':(v.m.length:Int)≤20000:=Ws
 have HV:=qI hv
 have HB:=qI (xr w v.kind v.num v.s (.slice a v.l.length c) (.slice b v.m.length e) 25)
 have Gg:=qI (((zb.refl [] w).alloc (.cells #[.int .i64 v.kind,.int .i64 v.num,.string v.s,.slice a v.l.length c,.slice b v.m.length e] 25)))
 obtain⟨c0,c1,c2,c3,c4⟩:=HB.o
 clear h hkl hv
 have H1:=qI ((zb.refl [] (w.alloc (.cells #[.int .i64 v.kind,.int .i64 v.num,.string v.s,.slice a v.l.length c,.slice b v.m.length e] 25))).alloc (.cells #[] 25))
 have Gx:Hid ((w.alloc (.cells #[.int .i64 v.kind,.int .i64 v.num,.string v.s,.slice a v.l.length c,.slice b v.m.length e] 25)).heap.size=w.heap.size+1):=qI Wz
 have Gh:=qI (vO (t:=25) (size:=5) (g:=w.heap.size+1) (base:=w.heap.size+1) (w.alloc (.cells #[.int .i64 v.kind,.int .i64 v.num,.string v.s,.slice a v.l.length c,.slice b v.m.length e] 25)) Wz (Nat.le_refl _))
 have Ge:=qI ((H.o.slcl.kept0 Gg.o).kept0 H1.o)
 go_enter func65,ntmps65
 go_wp2_with (at_builtin;refine zk tyVals Gh.o Ge.o H.o.ones (by simp only [maxLen];omega) Ws Wz rfl _ _ rfl rfl rfl ?_;intro v' w1 hown1 hk1 _ hb1)
 have Gl:=qI hown1
 have Gm:=qI (H1.o.trans hk1 (by intro i hi;simp [Value.ownBlock] at hi;exact .inr (by simp [hi])))
 clear hown1 hk1 hb1 Gh Ge c0 c1 c2 c3 c4
 go_loopw [3,4] (fun o i wr=>∃ k:Nat,i = .int .i64 k∧k≤v.m.length∧wr.ownsRow (w.heap.size+1) 25 5 o (v.l.length+k) (lcs.flatten++((mcs.take k).map (fun p=>p.2)).flatten)∧zb [] (w.alloc (.cells #[.int .i64 v.kind,.int .i64 v.num,.string v.s,.slice a v.l.length c,.slice b v.m.length e] 25)) wr) (fun _ i _=>v.m.length-(intOf i).toNat)
 case atStart=>exact⟨0,rfl,Nat.zero_le _,by simpa using Gl.o,Gm.o⟩
 case round=>
  obtain⟨k,rfl,hk,hown,hkr⟩:=hrel
  have Gn:=qI hown
  have Gc:=qI (Gg.o.trans' hkr)
  obtain⟨b0,b1,b2,b3,b4⟩:=HB.o.kept0 hkr
  have Ga:=qI hkr
  clear hown hkr
  by_cases hlt:k<v.m.length
  ·have hltI:(k:Int)<v.m.length:=by omega
   obtain⟨g,o,cap,kd,nm,st,a1,b1',he,q0,q1,q2,q3,q4,q5,hr,hx⟩:=H.o.at_mx Gc.o k hlt
   simp only [Value.slice.injEq] at he
   obtain⟨rfl,-,rfl⟩:=he
   have Gv:=qI hr.one
   have hlt':k<mcs.length:=by rw [H.o.lens.2];exact hlt
   have HX:Hid (mcs[k].2=[.int .i64 kd,.int .i64 nm,.string st,a1,b1']):=qI (by rw [List.getElem?_eq_getElem hlt'] at hx;rw [Option.some.inj hx])
   have HT:Hid (((mcs.take (k+1)).map (fun p=>p.2)).flatten=((mcs.take k).map (fun p=>p.2)).flatten++[.int .i64 kd,.int .i64 nm,.string st,a1,b1']):=qI (by
    rw [List.take_succ_eq_append_getElem hlt',List.map_append,List.flatten_append,← HX.o]
    simp)
   have Ge:=qI (zT wr [.int .i64 kd,.int .i64 nm,.string st,a1,b1'] 5 1 25 wr.heap.size rfl rfl Wo)
   have Gw:=qI ((zb.refl [] wr).alloc (.cells #[.int .i64 kd,.int .i64 nm,.string st,a1,b1'] 25))
   have Gi:=qI (zo Gn.o Gw.o Wz)
   have Gp:Hid (w.heap.size+1≤(wr.alloc (.cells #[.int .i64 kd,.int .i64 nm,.string st,a1,b1'] 25)).heap.size):=qI (by have h1:=Ga.o.size;have h2:=Gx.o;have h3:=Gw.o.size;omega)
   clear hr hx
   go_wp2_with (at_builtin;refine zk tyVals Gi.o Ge.o Gv.o (by simp only [maxLen];omega) Ws Gp.o rfl _ _ rfl rfl rfl ?_;intro v' w2 hown2 hk2 _ hb2)
   case roundEnd=>
    refine⟨⟨k+1,by go_num,Ws,?_,?_⟩,by simp [intOf];omega⟩
    ·rw [HT.o,← List.append_assoc,← Nat.add_assoc]
     exact hown2
    ·refine (Ga.o.then Gw.o).trans hk2 ?_
     intro i hi
     exact .inr (by have:=(Gi.o.lt i (Option.mem_toList.1 hi)).1;rw [Gx.o];exact this)
  ·obtain rfl:k=v.m.length:=by omega
   have Gq:Hid (YO n wr u3 v.kids):=qI ⟨kidsC lcs mcs,by
    have e1:mcs.take v.m.length=mcs:=List.take_of_length_le (by rw [H.o.lens.2];exact Nat.le_refl _)
    have h1:=Gn.o
    rw [e1] at h1
    rw [Gd.o,kidsC,List.flatten_append]
    exact Slc.of_row h1,(H.o.kids.mono fun _ _ _ r=>(r.kept0 Gc.o).mono (fun _ _ _=>trivial))⟩
   obtain⟨lcs',hs',-⟩:=Gq.o
   obtain⟨a',c',e',-,-⟩:=hs'.form
   subst e'
   clear hs'
   go_wp2_with fail
   go_ret
   exact⟨⟨_,_,rfl,Gq.o⟩,Gc.o⟩
theorem maxL_snoc (l:List Nat) (x:Nat):qU (l++[x])=max (qU l) x:=by
 rw [maxL_app];simp [qU]
theorem xK {α β:Type}(f:α→β) (l:List α) (k:Nat) (h:k<l.length):(l.take (k+1)).map f=(l.take k).map f++[f l[k]]:=by
 rw [List.take_succ_eq_append_getElem h,List.map_append];rfl
theorem kC:∀ (n:Nat) (v:V n),zE n v≤n
 | 0,v=>nomatch v
 | n+1,(v:VS (V n))=>by
  show 1+qU (v.kids.map (zE n))≤n+1
  have:qU (v.kids.map (zE n))≤n:=bP.2 (fun x hx=>by
   obtain⟨y,_,rfl⟩:=List.mem_map.1 hx
   exact kC n y)
  omega
theorem yA.few {n:Nat}{v:VS (V n)}(h:yA (n+1) v):v.l.length+v.m.length≤20000:=by
 have:=kids_few v;have:=h.1;omega
def j9 (n : Nat) : Prop := ∀ (v : V n) {S : Nat → Prop} {w : World} {cs : List Value}, Rep n S w cs v → yA n v → n ≤ 100 →
    Calls Tryz.prog 31 #[.agg cs.toArray] w fun e w'=>e = .returned (.int .i64 (zE n v))∧zb [] w w'
theorem JV {n:Nat}(known:j9 n):j9 (n+1):=fun (v:VS (V n)) {S}{w}{cs} h hs hn=>by
  have Gb:=qI h
  have Gr:=qI hs
  obtain⟨vl,vm,lcs,mcs,h⟩:=h
  obtain⟨a,c,b,e,rfl,rfl,rfl⟩:=h.forms
  have IH:=qI known
  have Gu:Hid (∀ x,x∈v.kids→zE n x≤n):=qI fun x _=>kC n x
  have Gf:Hid (zE (n+1) v=1+qU (v.kids.map (zE n))):=qI rfl
  have HB:=qI (xr w v.kind v.num v.s (.slice a v.l.length c) (.slice b v.m.length e) 25)
  have Gg:=qI (((zb.refl [] w).alloc (.cells #[.int .i64 v.kind,.int .i64 v.num,.string v.s,.slice a v.l.length c,.slice b v.m.length e] 25)))
  have Gd:Hid (v.kids.length≤20000):=qI (by have:=hs.few;simp only [VS.kids,List.length_append,List.length_map];omega)
  obtain⟨c0,c1,c2,c3,c4⟩:=HB.o
  clear h hs
  have Gs:=qI (kids_any (Gb.o.kept0 Gg.o) Gr.o.few)
  go_enter func31,ntmps31
  go_wp2_with (go_at_call 65;refine Gs.o.mono ?_;rintro e w1 ⟨⟨ak,ck,rfl,hva⟩,hk1⟩)
  have Gj:=qI hva
  have Gm:=qI (Gg.o.then hk1)
  clear hva hk1 c0 c1 c2 c3 c4 Gs
  have hkl:=Gd.o
  revert Gj Gu Gf Gd hkl
  have Gk:Hid (∀ x,x∈v.kids→yA n x):=qI fun x hx=>Gr.o.kid hx
  revert Gk
  generalize v.kids=kids
  intro Gk Gu Gf Gd Gj hkl
  go_loopw [3,5] (fun m i wr=>∃ k:Nat,i = .int .i64 k∧k≤kids.length∧m = .int .i64 (qU ((kids.take k).map (zE n)))∧zb [] w1 wr) (fun _ i _=>kids.length-(intOf i).toNat)
  case atStart=>exact⟨0,rfl,Nat.zero_le _,rfl,Wd⟩
  case round=>
   obtain⟨k,rfl,hk,rfl,hkr⟩:=hrel
   have Ga:=qI hkr
   clear hkr
   by_cases hlt:k<kids.length
   ·have hltI:(k:Int)<kids.length:=by omega
    obtain⟨g,o,cap,kd,nm,st,a1,b1,he,q0,q1,q2,q3,q4,hr⟩:=(Gj.o.kept0 Ga.o).at hlt
    simp only [Value.slice.injEq] at he
    obtain⟨rfl,-,rfl⟩:=he
    have CL:=qI (IH.o kids[k] hr (Gk.o _ (List.getElem_mem hlt)) Ws)
    have hd:=Gu.o kids[k] (List.getElem_mem hlt)
    have HT:Hid (qU ((kids.take (k+1)).map (zE n))=max (qU ((kids.take k).map (zE n))) (zE n kids[k])):=qI (by rw [xK _ _ _ hlt,maxL_snoc])
    clear hr
    revert CL hd HT
    generalize zE n kids[k]=D
    generalize qU ((kids.take k).map (zE n))=M
    intro CL hd HT
    by_cases hgt:M<D
    ·have hgtI:(M:Int)<D:=by omega
     go_wp2_with (go_at_call 31;refine CL.o.mono ?_;rintro e w2 ⟨rfl,hk2⟩)
     case roundEnd=>
      refine⟨⟨k+1,by go_num,Ws,?_,Ga.o.then hk2⟩,by simp [intOf];omega⟩
      rw [HT.o,Nat.max_eq_right (Nat.le_of_lt hgt)]
    ·have hgtI:¬ (M:Int)<D:=by omega
     go_wp2_with (go_at_call 31;refine CL.o.mono ?_;rintro e w2 ⟨rfl,hk2⟩)
     case roundEnd=>
      refine⟨⟨k+1,by go_num,Ws,?_,Ga.o.then hk2⟩,by simp [intOf];omega⟩
      rw [HT.o,Nat.max_eq_left Ws]
   ·obtain rfl:k=kids.length:=by omega
    rw [List.take_length]
    have hM:qU (kids.map (zE n))≤n:=bP.2 (fun x hx=>by
     obtain⟨y,hy,rfl⟩:=List.mem_map.1 hx
     exact Gu.o y hy)
    revert hM Gf
    generalize qU (kids.map (zE n))=M
    intro Gf hM
    go_wp2_with fail
    go_ret
    rw [Gf.o]
    exact⟨by simp;omega,Gm.o.then Ga.o⟩
theorem Zb:∀ (n:Nat),j9 n
 | 0=>fun v {_}{_}{_} h _ _=>h.elim
 | n+1=>JV (Zb n)
theorem depth_any:∀ (n:Nat) (v:V n) {S:Nat→Prop}{w:World}{cs:List Value},Rep n S w cs v→yA n v→n≤100 →
  Calls Tryz.prog 31 #[.agg cs.toArray] w fun e w'=>e = .returned (.int .i64 (zE n v))∧zb [] w w':=fun n=>Zb n
def jV (n : Nat) : Prop := ∀ (v : V n) {S : Nat → Prop} {w : World} {cs : List Value}, Rep n S w cs v → yA n v →
    Calls Tryz.prog 63 #[.agg cs.toArray] w fun e w'=>e = .returned (.int .i64 (zw n v))∧zb [] w w'
theorem KI {n:Nat}(known:jV n):jV (n+1):=fun (v:VS (V n)) {S}{w}{cs} h hs=>by
  have Gb:=qI h
  have Gr:=qI hs
  obtain⟨vl,vm,lcs,mcs,h⟩:=h
  obtain⟨a,c,b,e,rfl,rfl,rfl⟩:=h.forms
  have IH:=qI known
  have Gf:Hid (zw (n+1) v=1+(v.kids.map (zw n)).sum):=qI rfl
  have HC:Hid (1+(v.kids.map (zw n)).sum≤20000):=qI hs.1
  have HB:=qI (xr w v.kind v.num v.s (.slice a v.l.length c) (.slice b v.m.length e) 25)
  have Gg:=qI (((zb.refl [] w).alloc (.cells #[.int .i64 v.kind,.int .i64 v.num,.string v.s,.slice a v.l.length c,.slice b v.m.length e] 25)))
  have Gd:Hid (v.kids.length≤20000):=qI (by have:=hs.few;simp only [VS.kids,List.length_append,List.length_map];omega)
  obtain⟨c0,c1,c2,c3,c4⟩:=HB.o
  clear h hs
  have Gs:=qI (kids_any (Gb.o.kept0 Gg.o) Gr.o.few)
  go_enter func63,ntmps63
  go_wp2_with (go_at_call 65;refine Gs.o.mono ?_;rintro e w1 ⟨⟨ak,ck,rfl,hva⟩,hk1⟩)
  have Gj:=qI hva
  have Gm:=qI (Gg.o.then hk1)
  clear hva hk1 c0 c1 c2 c3 c4 Gs
  have hkl:=Gd.o
  revert Gj HC Gf Gd hkl
  have Gk:Hid (∀ x,x∈v.kids→yA n x):=qI fun x hx=>Gr.o.kid hx
  revert Gk
  generalize v.kids=kids
  intro Gk Gf HC Gd Gj hkl
  go_loopw [3,5] (fun m i wr=>∃ k:Nat,i = .int .i64 k∧k≤kids.length∧m = .int .i64 (1+((kids.take k).map (zw n)).sum:Nat)∧zb [] w1 wr) (fun _ i _=>kids.length-(intOf i).toNat)
  case atStart=>exact⟨0,rfl,Nat.zero_le _,rfl,Wd⟩
  case round=>
   obtain⟨k,rfl,hk,rfl,hkr⟩:=hrel
   have Ga:=qI hkr
   clear hkr
   by_cases hlt:k<kids.length
   ·have hltI:(k:Int)<kids.length:=by omega
    obtain⟨g,o,cap,kd,nm,st,a1,b1,he,q0,q1,q2,q3,q4,hr⟩:=(Gj.o.kept0 Ga.o).at hlt
    simp only [Value.slice.injEq] at he
    obtain⟨rfl,-,rfl⟩:=he
    have CL:=qI (IH.o kids[k] hr (Gk.o _ (List.getElem_mem hlt)))
    have HT:Hid (1+((kids.take (k+1)).map (zw n)).sum=(1+((kids.take k).map (zw n)).sum)+zw n kids[k]):=qI (by rw [xK _ _ _ hlt,List.sum_append];simp;omega)
    have hle:(1+((kids.take k).map (zw n)).sum)+zw n kids[k]≤20000:=by
     rw [← HT.o]
     have h1:(kids.map (zw n)).sum=((kids.take (k+1)).map (zw n)).sum+((kids.drop (k+1)).map (zw n)).sum:=by
      rw [← List.sum_append,← List.map_append,List.take_append_drop]
     have:=HC.o
     omega
    clear hr
    revert CL hle HT
    generalize zw n kids[k]=D
    generalize 1+((kids.take k).map (zw n)).sum=M
    intro CL HT hle
    go_wp2_with (go_at_call 63;refine CL.o.mono ?_;rintro e w2 ⟨rfl,hk2⟩)
    case roundEnd=>
     refine⟨⟨k+1,by go_num,Ws,?_,Ga.o.then hk2⟩,by simp [intOf];omega⟩
     rw [HT.o]
     go_num
   ·obtain rfl:k=kids.length:=by omega
    rw [List.take_length]
    go_wp2_with fail
    go_ret
    rw [Gf.o]
    exact⟨rfl,Gm.o.then Ga.o⟩
theorem b6:∀ (n:Nat),jV n
 | 0=>fun v {_}{_}{_} h _=>h.elim
 | n+1=>KI (b6 n)
theorem count_any:∀ (n:Nat) (v:V n) {S:Nat→Prop}{w:World}{cs:List Value},Rep n S w cs v→yA n v →
  Calls Tryz.prog 63 #[.agg cs.toArray] w fun e w'=>e = .returned (.int .i64 (zw n v))∧zb [] w w':=fun n=>b6 n
end Go.Proofs.YtibnfbglanpoiaaGreatDoor

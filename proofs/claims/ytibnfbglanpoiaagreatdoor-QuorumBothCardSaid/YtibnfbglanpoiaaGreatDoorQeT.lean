/- Parts of one proof, merged: XGE XGF. -/
import Derived.Test.YtibnfbglanpoiaaGreatDoorQeS
set_option linter.all false
set_option maxHeartbeats 12800000
set_option maxRecDepth 10000
namespace Go.Proofs.YtibnfbglanpoiaaGreatDoor
open Go.Proofs.Tryz
open Go.RowKit
theorem refId_any (s:ByteArray) (hs:s.size≤140737488355328) (w:World):CL w 33 #[.string s] (.bool (qo s)):=by
 have CU:=bS s hs w
 have HI:Hid (qo s=match yJ s with | none=>false | some l=>decide (l.length=32)):=qI rfl
 clear hs
 rcases hu:yJ s with _ | l
 ·rw [hu] at CU HI
  have CU:=qI CU
  clear hu
  go_enter func33,ntmps33
  go_wp2_with (go_at_call 32;refine CU.o.mono ?_;rintro e w1 ⟨he,hk⟩;change e=_ at he;subst he;have HK:=qI hk;clear hk)
  go_ret
  exact⟨by rw [HI.o];rfl,HK.o⟩
 ·rw [hu] at CU HI
  have CU:=qI CU
  have HI:Hid (qo s=decide (l.length=32)):=qI HI.o
  clear hu
  by_cases hl:l.length=32
  ·have f1:=(xH (a:=(l.length:Int)) (b:=32) Ws).1
   rw [decide_eq_true hl] at HI
   clear hl
   go_enter func33,ntmps33
   go_wp2_with (go_at_call 32;refine CU.o.mono ?_;rintro e w1 ⟨⟨a,c,rfl,-,-⟩,hk⟩;have HK:=qI hk;clear hk)
   go_ret
   exact⟨by rw [HI.o];rfl,HK.o⟩
  ·have f1:=(yF (a:=(l.length:Int)) (b:=32) Ws).1
   rw [decide_eq_false hl] at HI
   clear hl
   go_enter func33,ntmps33
   go_wp2_with (go_at_call 32;refine CU.o.mono ?_;rintro e w1 ⟨⟨a,c,rfl,-,-⟩,hk⟩;have HK:=qI hk;clear hk)
   go_ret
   exact⟨by rw [HI.o];rfl,HK.o⟩
theorem take_any {l:List ByteArray}{k:Nat}{x:ByteArray}{j:Nat}(hj:j<k) (hl:j<l.length) (e:l[j]=x):(l.take k).any (fun y=>decide (y=x))=true:=
 List.any_eq_true.2 ⟨l[j],List.mem_take_iff_getElem.2 ⟨j,Ws,rfl⟩,by simp [e]⟩
theorem take_any_snoc {l:List ByteArray}{x:ByteArray}{j:Nat}(hl:j<l.length):(l.take (j+1)).any (fun y=>decide (y=x))=((l.take j).any (fun y=>decide (y=x)) || decide (l[j]=x)):=by
 rw [List.take_succ_eq_append_getElem hl,List.any_append]
 simp
theorem J5 {w:World}{r:qz}{a:Option Addr}{c:Nat}(h:xJ w (.slice a r.keys.length c) r.keys) (hz:∀ k,k∈r.keys→k.size≤140737488355328) (hlen:r.keys.length≤1000000000000) :
  CL w 22 #[.agg #[.slice a r.keys.length c,.int .i64 r.thr]] (.bool (yu r)):=by
 obtain⟨W0,Ga⟩:∃ W0,Hid (W0=w.alloc (.cells #[.slice a r.keys.length c,.int .i64 r.thr] 31)):=⟨_,qI rfl⟩
 have Gc:Hid (zb [] w W0):=qI (kA1 Ga.o)
 have Gd:Hid (W0.heap[w.heap.size]? = some (.cells #[.slice a r.keys.length c,.int .i64 r.thr] 31 (0,0))):=qI (by rw [Ga.o];exact zd rfl)
 have H:=qI (h.kept0 Gc.o)
 have HZ:=qI hz
 have HM:Hid (yu r=(decide (r.keys.length≤16)&&(decide (1≤r.thr)&&(decide (r.thr≤r.keys.length)&&kL [] r.keys)))):=qI rfl
 have c0:=za (o:=0) (v:=.slice a r.keys.length c) Gd.o rfl
 have c1:=za (o:=1) (v:=.int .i64 r.thr) Gd.o rfl
 have Gz:Hid ((r.keys.length<1∨16<r.keys.length∨r.thr<1∨(r.keys.length:Int)<r.thr)→yu r=false):=qI (fun q=>by
  cases h:yu r with
  | false=>rfl
  | true=>have h1:=mayRole_ids h;omega)
 clear h hz hlen
 by_cases kk:1≤r.keys.length∧r.keys.length≤16∧1≤r.thr∧r.thr≤r.keys.length
 rotate_left
 ·have HF:=qI (Gz.o Ws)
  have k5:r.keys.length<1∨(1≤r.keys.length∧16<r.keys.length)∨(1≤r.keys.length∧r.keys.length≤16∧r.thr<1)∨(1≤r.keys.length∧r.keys.length≤16∧1≤r.thr∧(r.keys.length:Int)<r.thr):=Ws
  clear kk
  obtain⟨n,HN⟩:∃ n,Hid (n=r.keys.length):=⟨_,qI rfl⟩
  rw [← HN.o] at Ga k5 c0 ⊢
  rcases k5 with k1 | ⟨k0,k1⟩ | ⟨k0,k1,k2⟩ | ⟨k0,k1,k2,k3⟩
  all_goals
   have k0I:(0:Int)≤n:=Ws
   go_enter func22,ntmps22
   go_upto_region 1 with fail
   rw [← Ga.o]
   go_wp2_with fail
   go_ret
   exact⟨by rw [HF.o];rfl,Gc.o⟩
 obtain⟨k0,k1,k2,k3⟩:=kk
 have Gm:Hid (yu r=kL [] r.keys):=qI (by rw [HM.o,decide_eq_true k1,decide_eq_true k2,decide_eq_true k3];rfl)
 obtain⟨n,HN⟩:∃ n,Hid (n=r.keys.length):=⟨_,qI rfl⟩
 rw [← HN.o] at Ga Gd H c0 k0 k1 k3 ⊢
 have k1I:(n:Int)≤16:=Ws
 go_enter func22,ntmps22
 go_upto_region 1 with fail
 rw [← Ga.o]
 go_wp2_with fail
 clear c0 c1
 go_loopw [3] (fun i wr=>∃ k:Nat,i = .int .i64 k∧k≤n∧Hid (kL (r.keys.take k) (r.keys.drop k)=kL [] r.keys)∧zb [] W0 wr) (fun i _=>n-(intOf i).toNat)
 case atStart=>exact⟨0,rfl,Nat.zero_le _,qI rfl,Wd⟩
 case round=>
  obtain⟨k,rfl,hk,HG,hkr⟩:=hrel
  have Ge:=qI hkr
  have c0:=za (o:=0) (v:=.slice a n c) (hkr.heap Gd.o Wz) rfl
  clear hkr
  by_cases hlt:k<n
  ·have hltI:(k:Int)<n:=by omega
   have hka:k<r.keys.length:=by rw [← HN.o];exact hlt
   obtain⟨g,o,rfl,q0⟩:=xJ.at (l:=r.keys) (c:=c) (by rw [← HN.o];exact H.o.kept0 Ge.o) hka
   have hks:r.keys[k].size≤140737488355328:=HZ.o _ (List.getElem_mem hka)
   have HD:Hid (kL (r.keys.take k) (r.keys.drop k)=(!((r.keys.take k).any (fun x=>decide (x=r.keys[k])))&&qo r.keys[k]&&kL (r.keys.take (k+1)) (r.keys.drop (k+1)))):=qI (by
    conv=>lhs;rw [List.drop_eq_getElem_cons hka]
    rw [List.take_succ_eq_append_getElem hka]
    rfl)
   have Gn:Hid (∀ j,j<k→∀ hj:j<r.keys.length,r.keys[j]=r.keys[k]→(r.keys.take k).any (fun x=>decide (x=r.keys[k]))=true):=qI (fun j hj hl e=>take_any hj hl e)
   have HQ:Hid (W0.cell? ⟨g,o+k,none⟩=some (.string r.keys[k])):=qI (by
    obtain⟨g',o',e,q⟩:=xJ.at (l:=r.keys) (c:=c) (by rw [← HN.o];exact H.o) hka
    simp only [Option.some.injEq,Addr.mk.injEq,and_true] at e
    obtain⟨rfl,rfl⟩:=e
    exact q)
   have Gp:Hid (∀ j (hj:j<r.keys.length),(r.keys.take (j+1)).any (fun x=>decide (x=r.keys[k]))=((r.keys.take j).any (fun x=>decide (x=r.keys[k])) || decide (r.keys[j]=r.keys[k]))):=qI (fun j hj=>take_any_snoc hj)
   have CI:=qI (refId_any r.keys[k] hks)
   clear hks q0
   revert CI Gp HQ Gn HD
   generalize r.keys[k]=key
   intro HD Gn HQ Gp CI
   go_wp2_with fail
   clear c0
   go_loopw [4] (fun i wr3=>∃ j:Nat,i = .int .i64 j∧j≤k∧Hid ((r.keys.take j).any (fun x=>decide (x=key))=false)∧zb [] W0 wr3) (fun i _=>k-(intOf i).toNat)
   case atStart=>exact⟨0,rfl,Nat.zero_le _,qI rfl,Ge.o⟩
   case round=>
    obtain⟨j,rfl,hj,Gg,hkr3⟩:=hrel
    have Gb:=qI hkr3
    have c0:=za (o:=0) (v:=.slice (some ⟨g,o,none⟩) n c) (hkr3.heap Gd.o Wz) rfl
    have q0:=hkr3.cell HQ.o Wz
    clear hkr3
    by_cases hjt:j<k
    ·have hjI:(j:Int)<k:=by omega
     have hjn:(j:Int)<n:=Ws
     have hja:j<r.keys.length:=by rw [← HN.o];omega
     obtain⟨g2,o2,he,p0⟩:=xJ.at (l:=r.keys) (c:=c) (by rw [← HN.o];exact H.o.kept0 Gb.o) hja
     simp only [Option.some.injEq,Addr.mk.injEq,and_true] at he
     obtain⟨rfl,rfl⟩:=he
     have Gq:=qI (Gn.o j hjt hja)
     have Gr:=qI (Gp.o j hja)
     have E0:=zz c0
     have E1:=zz q0
     have E2:=zz p0
     clear c0 q0 p0
     revert E2 Gq Gr
     generalize r.keys[j]=key2
     intro Gq Gr E2
     by_cases hkk:key2=key
     ·obtain⟨f1,f2⟩:=ky hkk
      have Ja:=qI (Gq.o hkk)
      clear hkk
      go_wp2_with fail
      refine yn wr Wr Wr Wd ?_
      repeat go_big_quiet_step (fail)
      refine wpQuiet_nil ?_
      intro w5 hk5
      go_wp2_with fail
      go_ret
      rw [Gm.o,← HG.o,HD.o,Ja.o]
      exact⟨Wz,(Gc.o.then Gb.o).then hk5⟩
     ·obtain⟨f1,f2⟩:=ke hkk
      have Jb:Hid ((r.keys.take (j+1)).any (fun x=>decide (x=key))=false):=qI (by rw [Gr.o,Gg.o,decide_eq_false hkk];rfl)
      clear hkk
      go_wp2_with fail
      refine yn wr Wr Wr Wd ?_
      repeat go_big_quiet_step (fail)
      refine wpQuiet_nil ?_
      intro w5 hk5
      go_wp2_with fail
      case roundEnd=>exact⟨⟨j+1,by go_num,Ws,Jb,Gb.o.then hk5⟩,by simp [intOf];omega⟩
    ·obtain rfl:j=k:=by omega
     have CI2:=qI (CI.o wr)
     revert CI2 HD
     generalize hid2:qo key=ok
     intro HD CI2
     clear hid2
     cases ok with
     | false=>
      go_wp2_with (go_at_call 33;refine CI2.o.mono ?_;rintro e w5 ⟨rfl,hk5⟩)
      go_ret
      rw [Gm.o,← HG.o,HD.o]
      exact⟨Wz,(Gc.o.then Gb.o).then hk5⟩
     | true=>
      go_wp2_with (go_at_call 33;refine CI2.o.mono ?_;rintro e w5 ⟨rfl,hk5⟩)
      case roundEnd=>
       refine⟨⟨j+1,by go_num,Ws,qI ?_,Gb.o.then hk5⟩,by simp [intOf];omega⟩
       rw [← HG.o,HD.o,Gg.o]
       simp
  ·obtain rfl:k=n:=by omega
   go_wp2_with fail
   go_ret
   have hg:=HG.o
   rw [HN.o,List.drop_length] at hg
   rw [Gm.o,← hg]
   exact⟨rfl,Gc.o.then Ge.o⟩
theorem JD (n:Int) (w:World):CL w 92 #[.int .i64 n] (.agg #[.int .i64 3,.int .i64 n,.string ⟨#[]⟩,.slice none 0 0,.slice none 0 0]):=by
 go_enter func92,ntmps92
 go_wp2_with fail
 exact bodyPost_ret (v:=.agg #[.int .i64 3,.int .i64 n,.string ⟨#[]⟩,.slice none 0 0,.slice none 0 0]) (by simp [results,results92,go_sem]) rfl ⟨rfl,Wd.alloc _⟩
theorem Zn (s:ByteArray) (w:World):CL w 93 #[.string s] (.agg #[.int .i64 4,.int .i64 0,.string s,.slice none 0 0,.slice none 0 0]):=by
 go_enter func93,ntmps93
 go_wp2_with fail
 exact bodyPost_ret (v:=.agg #[.int .i64 4,.int .i64 0,.string s,.slice none 0 0,.slice none 0 0]) (by simp [results,results93,go_sem]) rfl ⟨rfl,Wd.alloc _⟩
def NewR (n:Nat) (S:Nat→Prop) (w':World) (e:Ending) (v:V n):Prop:=∃ cs:List Value,e = .returned (.agg cs.toArray)∧Rep n S w' cs v
theorem zip_take {α β:Type}:∀ (l:List α) (m:List β) (k:Nat) (h1:k<l.length) (h2:k<m.length),(l.zip m).take (k+1)=(l.zip m).take k++[(l[k],m[k])]
 | [],_,_,h,_=>by simp at h
 | _::_,[],_,_,h=>by simp at h
 | a::l,b::m,0,_,_=>rfl
 | a::l,b::m,k+1,h1,h2=>by
  have:=zip_take l m k (by simpa using h1) (by simpa using h2)
  simp only [List.zip_cons_cons,List.take_succ_cons,this,List.getElem_cons_succ,List.cons_append]
theorem pairCs_snoc (l:List (ByteArray×List Value)) (p:ByteArray×List Value):yk (l++[p])=yk l++xg p:=by simp [yk]
theorem zip_all2 {α β γ:Type}{R:α→β→Prop}{ks:List γ}{xs:List α}{ys:List β}(h:zH R xs ys):zH (fun (p:γ×α) (q:γ×β)=>p.1=q.1∧R p.2 q.2) (ks.zip xs) (ks.zip ys):=by
 refine⟨by simp [h.1],?_⟩
 intro j x y hx hy
 rw [List.getElem?_zip_eq_some] at hx hy
 rw [hx.1] at hy
 exact⟨Option.some.inj hy.1,h.2 j _ _ hx.2 hy.2⟩
theorem items_at {n:Nat}{S:Nat→Prop}{w:World}{b:Option Addr}{N d:Nat}{lcs:List (List Value)}{vs:List (V n)}(hl:Slc w 5 (.slice b N d) N lcs.flatten) (ha:zH (Rep n S w) lcs vs) (hN:vs.length=N) {k:Nat}(hk:k<N) :
  ∃ g o kd nm s p i c q j e,b=some ⟨g,o,none⟩∧w.cell? ⟨g,o+k*5,none⟩=some (.int .i64 kd)∧w.cell? ⟨g,o+k*5+1,none⟩=some (.int .i64 nm)∧w.cell? ⟨g,o+k*5+2,none⟩=some (.string s) ∧
   w.cell? ⟨g,o+k*5+3,none⟩=some (.slice p i c)∧w.cell? ⟨g,o+k*5+4,none⟩=some (.slice q j e)∧lcs[k]? = some [.int .i64 kd,.int .i64 nm,.string s,.slice p i c,.slice q j e]:=by
 have hk':k<lcs.length:=by rw [ha.1];omega
 have hr:=ha.2 k _ _ (List.getElem?_eq_getElem hk') (List.getElem?_eq_getElem Ws)
 obtain⟨kd,nm,s,p,i,c,q,j,e,he⟩:=hr.conv
 have hfive:∀ c,c∈lcs→c.length=5:=by
  intro c hc
  obtain⟨i,hi,rfl⟩:=List.getElem_of_mem hc
  exact (ha.2 i _ _ (List.getElem?_eq_getElem hi) (List.getElem?_eq_getElem (by have:=ha.1;omega))).len
 rcases hl.2 with ⟨_,h0⟩ | ⟨h0,_⟩ | ⟨g,o,cap,hsv,_,_,hrow⟩
 ·omega
 ·omega
 simp only [Value.slice.injEq] at hsv
 have hc:∀ i,i<5→lcs.flatten[k*5+i]? = lcs[k][i]?:=fun i hi=>kM lcs k i hfive hk' hi
 rw [he] at hc
 refine⟨g,o,kd,nm,s,p,i,c,q,j,e,hsv.1,hrow.cells (k*5+0) _ (hc 0 Wo),?_,?_,?_,?_,by rw [List.getElem?_eq_getElem hk',he]⟩
 all_goals rw [Nat.add_assoc]
 ·exact hrow.cells (k*5+1) _ (hc 1 Wo)
 ·exact hrow.cells (k*5+2) _ (hc 2 Wo)
 ·exact hrow.cells (k*5+3) _ (hc 3 Wo)
 ·exact hrow.cells (k*5+4) _ (hc 4 Wo)
theorem KZ {n:Nat}{S:Nat→Prop}{w:World}{a b:Option Addr}{c d N:Nat}{ks:List ByteArray}{lcs:List (List Value)}{vs:List (V n)}(hk:xJ w (.slice a ks.length c) ks) (hl:Slc w 5 (.slice b N d) N lcs.flatten) (ha:zH (Rep n S w) lcs vs) (hN:vs.length=N) (hM:ks.length=N) (hlt:N≤100) :
  Calls Tryz.prog 91 #[.slice a N c,.slice b N d] w fun e w'=>NewR (n+1) (fun g=>S g∨w.heap.size≤g) w' e (Zx (ks.zip vs):VS (V n))∧zb [] w w':=by
 obtain⟨W0,Ga⟩:∃ W0,Hid (W0=(w.alloc (.cells #[.int .i64 0,.int .i64 0,.string ⟨#[]⟩,.slice none 0 0,.slice none 0 0] 25)).alloc (.cells #[.int .i64 6,.int .i64 0,.string ⟨#[]⟩,.slice none 0 0,.slice none 0 0] 25)):=⟨_,qI rfl⟩
 have Gc:Hid (zb [] w W0):=qI (kA2 Ga.o)
 have Jc:Hid (W0.heap[w.heap.size]? = some (.cells #[.int .i64 0,.int .i64 0,.string ⟨#[]⟩,.slice none 0 0,.slice none 0 0] 25 (0,0))):=qI (by rw [Ga.o];exact ((zb.refl [] _).alloc _).heap (zd rfl) Wz)
 have Gd:Hid (W0.heap[w.heap.size+1]? = some (.cells #[.int .i64 6,.int .i64 0,.string ⟨#[]⟩,.slice none 0 0,.slice none 0 0] 25 (0,0))):=qI (by rw [Ga.o];exact zd Wz)
 have Gi:Hid (W0.heap.size=w.heap.size+2):=qI (by rw [Ga.o];simp)
 have HA:=qI (ha.mono (fun _ _ _ r=>r.kept0 Gc.o))
 have Gv:=qI ha
 have Jd:=qI hl
 have Je:Hid (xJ w (.slice a N c) ks):=qI (by rw [← hM];exact hk)
 have HN:=qI hN
 have HM:=qI hM
 have hNI:(N:Int)≤100:=Ws
 have Jf:Hid ((ks.zip lcs).length=N):=qI (by have:=ha.1;simp;omega)
 clear hk hl ha hN hM hlt
 go_enter func91,ntmps91
 go_upto_region 2 with fail
 rw [← Ga.o]
 go_wp2_with fail
 go_loopw [6] (fun i wr=>∃ (k cm:Nat) (am:Option Addr),i = .int .i64 k∧k≤N∧wr.heap[w.heap.size+1]? = some (.cells #[.int .i64 6,.int .i64 0,.string ⟨#[]⟩,.slice none 0 0,.slice am k cm] 25 (0,0))∧wr.ownsRow W0.heap.size 132 6 (.slice am k cm) k (yk ((ks.zip lcs).take k))∧zb [w.heap.size+1] W0 wr) (fun i _=>N-(intOf i).toNat)
 case atStart=>exact⟨0,0,none,rfl,Nat.zero_le _,Gd.o,World.ownsRow_nil _ _ _ _,Wd⟩
 case round=>
  obtain⟨k,cm,am,rfl,hk,hb,hrow,hkr⟩:=hrel
  have HB:=qI hb
  have Gf:=qI hrow
  have Ge:=qI hkr
  have Gj:Hid (zb [] w wr):=qI (Gc.o.trans hkr (by intro i hi;simp at hi;subst hi;exact .inr Ws))
  clear hb hrow hkr
  by_cases hlt:k<N
  ·have hltI:(k:Int)<N:=by omega
   have Gw:Hid ((k:Int)<N):=qI hltI
   have hka:k<ks.length:=by rw [HM.o];exact hlt
   have hkl:k<lcs.length:=by have:=HA.o.1;have:=HN.o;omega
   obtain⟨ga,oa,ea,q0⟩:=xJ.at (w:=wr) (l:=ks) (c:=c) (a:=a) (by rw [HM.o];exact Je.o.kept0 Gj.o) hka
   obtain⟨gb,ob,kd,nm,st,p1,i1,d1,p2,i2,d2,eb,s0,s1,s2,s3,s4,hcs⟩:=items_at (w:=wr) (Jd.o.kept0 Gj.o) (Gv.o.mono (fun _ _ _ r=>r.kept0 Gj.o)) HN.o hlt
   subst ea eb
   have HZ:Hid ((ks.zip lcs).take (k+1)=(ks.zip lcs).take k++[(ks[k],lcs[k])]):=qI (zip_take _ _ _ hka hkl)
   have f4:=za (o:=4) (v:=.slice am k cm) HB.o rfl
   rw [List.getElem?_eq_getElem hkl,Option.some.injEq] at hcs
   rw [hcs] at HZ
   clear hcs hkl
   revert q0 HZ
   generalize ks[k]=key
   intro q0 HZ
   clear hka
   have Gk:=qI hlt
   clear hlt
   go_upto_region 5 with fail
   refine zK (n:=29) 12 [fI (.pointer (some ⟨w.heap.size+1,4,none⟩)),
    fI (.slice am k cm),
    fI (.slice (some ⟨ga,oa,none⟩) N c),
    fI (.int .i64 k),
    fI (.pointer (some ⟨ga,oa+k,none⟩)),
    fI (.string key),
    fI (.slice (some ⟨gb,ob,none⟩) N d),
    fI (.int .i64 k),
    fI (.pointer (some ⟨gb,ob+k*5,none⟩)),
    fI (.agg #[.int .i64 kd,.int .i64 nm,.string st,.slice p1 i1 d1,.slice p2 i2 d2]),
    fI (.agg #[.string key,.int .i64 kd,.int .i64 nm,.string st,.slice p1 i1 d1,.slice p2 i2 d2]),
    xD [.string key,.int .i64 kd,.int .i64 nm,.string st,.slice p1 i1 d1,.slice p2 i2 d2] 1 6] Wr rfl Wr (fun x=>yH) ?_ ?_
   ·refine⟨?_,?_,?_,?_,?_,?_,?_,?_,?_,?_,?_,?_,trivial⟩ <;> intro x w2 hkw b hd
    ·exact ze
    ·have d0:x 0=_:=hd 0 Wr
     have y0:=hkw.cell f4 Wz
     exact ze
    ·exact ze
    ·exact ze
    ·have d2:x 2=_:=hd 2 Wr
     have d3:x 3=_:=hd 3 Wr
     have hkN:=Gw.o
     exact ze
    ·have d4:x 4=_:=hd 4 Wr
     have y0:=hkw.cell q0 Wz
     exact ze
    ·exact ze
    ·exact ze
    ·have d6:x 6=_:=hd 6 Wr
     have d7:x 7=_:=hd 7 Wr
     have hkN:=Gw.o
     exact ze
    ·have d8:x 8=_:=hd 8 Wr
     have y0:=hkw.cell s0 Wz
     have y1:=hkw.cell s1 Wz
     have y2:=hkw.cell s2 Wz
     have y3:=hkw.cell s3 Wz
     have y4:=hkw.cell s4 Wz
     exact ze
    ·have d5:x 5=_:=hd 5 Wr
     have d9:x 9=_:=hd 9 Wr
     exact ze
    ·have d10:x 10=_:=hd 10 Wr
     go_wp2_with fail
     exact⟨⟨w2.heap.size,rfl,Nat.le_refl _,Wz,zT w2 [.string key,.int .i64 kd,.int .i64 nm,.string st,.slice p1 i1 d1,.slice p2 i2 d2] 6 1 _ _ rfl rfl Wo⟩,Wd.alloc _⟩
   ·intro x w7 hkw b7 hd hwin
    have d9:x 1=_:=hd 1 Wo
    obtain⟨g9,d11,-,-,hsl⟩:=hd 11 Wo
    have Jg:=qI hsl
    have Gs:=qI hkw
    have Jh:=qI (hkw.heap HB.o Wz)
    have Gx:=qI Gf.o.lt
    have Ji:Hid (w.heap.size+1 ∉ (Value.slice am k cm).ownBlock.toList):=qI (fun hx=>by have h1:=(Gx.o _ (Option.mem_toList.1 hx)).1;have h3:=Gi.o;omega)
    clear hd hwin hkw hsl
    change wpList _ _ _ [_,_,_] _ _
    go_wp2_with (at_builtin;refine zk jF (v:=.slice am k cm) (n:=k) (zo Gf.o Gs.o Wz) Jg.o (by simp [Value.oneCell']) (by simp only [maxLen];have:=Gk.o;omega) (by have:=Gk.o;omega) (by have:=Ge.o.size;have:=Gs.o.size;omega) rfl _ _ rfl d9 d11 ?_;intro v5 w8 hown hk5 _ hb5;obtain⟨a5,c5,rfl,-,-⟩:=(Slc.of_row hown).form;have Gh:=qI hown;have Jj:=qI hk5;have Gt:=qI (hk5.heap Jh.o Ji.o);have u0:=za (o:=4) (v:=.slice am k cm) Gt.o rfl;have uf:=zh (o:=4) Gt.o;clear hown hk5 hb5)
    case roundEnd=>
     have hst:zb [w.heap.size+1] w8 (w8.setCell ⟨w.heap.size+1,4,none⟩ (.slice a5 (k+1) c5)):=Wd.setCell (.inl Wz) _
     have hX5:∀ i,i∈(Value.slice am k cm).ownBlock.toList→W0.heap.size≤i:=fun i hi=>(Gx.o i (Option.mem_toList.1 hi)).1
     refine⟨⟨k+1,c5,a5,by go_num,by have:=Gk.o;omega,zg Gt.o rfl,?_,((Ge.o.then Gs.o).trans Jj.o (fun i hi=>.inr (hX5 i hi))).trans hst (fun i hi=>.inl hi)⟩,by have:=Gk.o;simp [intOf];omega⟩
     rw [HZ.o,pairCs_snoc]
     exact zo Gh.o hst (fun g hg=>by have:=(Gh.o.lt g hg).1;have:=Gi.o;simp;omega)
  ·obtain rfl:k=N:=by omega
   have hge:¬ k<k:=Ws
   have Gu:=qI (Ge.o.heap Jc.o Wz)
   obtain⟨b0,b1,b2,b3,b4⟩:=jt HB.o
   obtain⟨r0,r1,r2,r3,r4⟩:=jt Gu.o
   have z:∀ j,wr.frozen? ⟨w.heap.size,j,none⟩=false:=fun j=>zh Gu.o
   go_wp2_with fail
   change bodyPost _ _ _ _ _ (bp wr w.heap.size 6 0 ⟨#[]⟩ (.slice none 0 0) (.slice am k cm))
   have Gl:=ja wr w.heap.size 6 0 ⟨#[]⟩ (.slice none 0 0) (.slice am k cm)
   obtain⟨y0,y1,y2,y3,y4⟩:=jt (vP Gu.o 6 0 ⟨#[]⟩ (.slice none 0 0) (.slice am k cm))
   revert Gl y0 y1 y2 y3 y4
   generalize bp wr w.heap.size 6 0 ⟨#[]⟩ (.slice none 0 0) (.slice am k cm)=WF
   intro Gl y0 y1 y2 y3 y4
   refine bodyPost_ret (v:=.agg #[.int .i64 6,.int .i64 0,.string ⟨#[]⟩,.slice none 0 0,.slice am k cm]) (by simp [results,results91,go_sem,y0,y1,y2,y3,y4]) rfl ?_
   have Gy:zb [] w WF:=Gj.o.trans Gl (by intro i hi;simp at hi;subst hi;exact .inr (Nat.le_refl _))
   have hrow:=Gf.o
   rw [List.take_of_length_le (by have:=Jf.o;omega)] at hrow
   have hsl:=(Slc.of_row hrow).kept Gl (fun g hg=>by have:=(hrow.lt g (z6 hg)).1;have:=Gi.o;simp;omega)
   have hzl:(Zx (ks.zip vs):VS (V n)).m.length=k:=by show (ks.zip vs).length=k;have:=HN.o;have:=HM.o;simp;omega
   refine⟨⟨[.int .i64 6,.int .i64 0,.string ⟨#[]⟩,.slice none 0 0,.slice am k cm],rfl,.slice none 0 0,.slice am k cm,[],ks.zip lcs,{
    cells:=rfl
    slcl:=yV _ _
    alll:=zH.nil _
    slcm:=by rw [hzl];exact hsl
    allm:=zip_all2 ((Gv.o.mono (fun _ _ _ r=>r.kept0 Gy)).mono (fun _ _ _ r=>r.mono (fun _ _ h=>.inl h)))
    inl:=by simp [zW]
    inm:=fun g hg=>.inr (by have:=(hrow.lt g (z6 hg)).1;have:=Gi.o;omega)
    wfk:=Kd (i:=6) Wo Wo
    wfn:=Kd (i:=0) Wo Wo }⟩,Gy⟩
def repFact (S:Nat→Prop) (n:Nat) (v:V n):kf (zb []):=⟨fun u _ w=>∃ k m s p i c q j d,u = .agg #[.int .i64 k,.int .i64 m,.string s,.slice p i c,.slice q j d]∧Rep n S w [.int .i64 k,.int .i64 m,.string s,.slice p i c,.slice q j d] v,
 fun _ _ _ _ ⟨k,m,s,p,i,c,q,j,d,h1,h2⟩ kk=>⟨k,m,s,p,i,c,q,j,d,h1,h2.kept0 kk⟩⟩
end Go.Proofs.YtibnfbglanpoiaaGreatDoor

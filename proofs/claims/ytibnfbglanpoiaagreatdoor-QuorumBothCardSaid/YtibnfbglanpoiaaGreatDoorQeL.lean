/- Parts of one proof, merged: XIA XKJ XKR XKU XKV. -/
import Derived.Test.YtibnfbglanpoiaaGreatDoorQeJ
import Derived.Test.YtibnfbglanpoiaaGreatDoorQeK
set_option linter.all false
set_option maxHeartbeats 12800000
set_option maxRecDepth 10000
namespace Go.Proofs.YtibnfbglanpoiaaGreatDoor
open Go.Proofs.Tryz
open Go.RowKit
theorem jt {w:World}{g:Nat}{k m:Int}{s:ByteArray}{a b:Value}{t:Nat}{f:Nat×Nat}(h:w.heap[g]? = some (.cells #[.int .i64 k,.int .i64 m,.string s,a,b] t f)):qq w g k m s a b:=⟨za h rfl,za h rfl,za h rfl,za h rfl,za h rfl⟩
def bp (w:World) (g:Nat) (k m:Int) (s:ByteArray) (a b:Value):World:=((((w.setCell ⟨g,0,none⟩ (.int .i64 k)).setCell ⟨g,1,none⟩ (.int .i64 m)).setCell ⟨g,2,none⟩ (.string s)).setCell ⟨g,3,none⟩ a).setCell ⟨g,4,none⟩ b
theorem ja (w:World) (g:Nat) (k m:Int) (s:ByteArray) (a b:Value):zb [g] w (bp w g k m s a b):=by
 unfold bp
 exact (((((zb.refl [g] w).setCell (.inl Wz) _).setCell (.inl Wz) _).setCell (.inl Wz) _).setCell (.inl Wz) _).setCell (.inl Wz) _
theorem vP {w:World}{g:Nat}{c0 c1 c2 c3 c4:Value}{t:Nat}{f:Nat×Nat}(h:w.heap[g]? = some (.cells #[c0,c1,c2,c3,c4] t f)) (k m:Int) (s:ByteArray) (a b:Value):(bp w g k m s a b).heap[g]? = some (.cells #[.int .i64 k,.int .i64 m,.string s,a,b] t f):=by
 unfold bp
 have h1:=zg (i:=0) (v:=.int .i64 k) (d:=#[.int .i64 k,c1,c2,c3,c4]) h rfl
 have h2:=zg (i:=1) (v:=.int .i64 m) (d:=#[.int .i64 k,.int .i64 m,c2,c3,c4]) h1 rfl
 have h3:=zg (i:=2) (v:=.string s) (d:=#[.int .i64 k,.int .i64 m,.string s,c3,c4]) h2 rfl
 have h4:=zg (i:=3) (v:=a) (d:=#[.int .i64 k,.int .i64 m,.string s,a,c4]) h3 rfl
 have h5:=zg (i:=4) (v:=b) (d:=#[.int .i64 k,.int .i64 m,.string s,a,b]) h4 rfl
 exact h5
def Z4:Value:=.agg #[.int .i64 0,.int .i64 0,.string ⟨#[]⟩,.slice none 0 0,.slice none 0 0]
section
variable {n : Nat} {v : VS (V n)} {S : Nat → Prop} {w : World} {cs : List Value}
end
def WAt (w:World) (b:Nat) (d c:Nat) (r:Bool):Prop:=w.heap[b]? = some (.cells #[.int .i64 d,.int .i64 c,.bool r] 148 (0,0))
theorem WAt.kept {w w':World}{b d c:Nat}{r:Bool}{X:List Nat}(h:WAt w b d c r) (k:zb X w w') (hb:b ∉ X):WAt w' b d c r:=k.heap h hb
structure Seen {n:Nat}(v:VS (V n)) (d c:Nat) (r:Bool) (k:Nat) (ks:List (V n)) (D C:Nat) (R:Bool):Prop where
 hd:D=max (max d k) (k+qU (ks.map (zE n)))
 hc:C=c+1+(ks.map (zw n)).sum
 hr:R=(r || !(zx v&&ks.all (zr n)))
theorem Seen.snoc {n:Nat}{v:VS (V n)}{d c:Nat}{r:Bool}{k:Nat}{ks:List (V n)}{D C:Nat}{R:Bool}(h:Seen v d c r k ks D C R) (x:V n) (hx:1≤zE n x) :
  Seen v d c r k (ks++[x]) (max D (k+1+zE n x-1)) (C+zw n x) (R || !zr n x):=by
 obtain⟨h1,h2,h3⟩:=h
 refine⟨?_,?_,?_⟩
 ·rw [h1,List.map_append,maxL_app]
  simp only [List.map_cons,List.map_nil,qU]
  omega
 ·rw [h2,List.map_append,List.sum_append]
  simp only [List.map_cons,List.map_nil,List.sum_cons,List.sum_nil]
  omega
 ·rw [h3,List.all_append]
  simp only [List.all_cons,List.all_nil,Bool.and_true]
  cases r <;> cases zx v <;> cases ks.all (zr n) <;> cases zr n x <;> rfl
theorem Seen.all {n:Nat}{v:VS (V n)}{d c:Nat}{r:Bool}{k:Nat}{D C:Nat}{R:Bool}(h:Seen v d c r k v.kids D C R) :
  D=max d (k+zE (n+1) v-1)∧C=c+zw (n+1) v∧R=(r || !zr (n+1) v):=by
 obtain⟨h1,h2,h3⟩:=h
 have e1:zE (n+1) v=1+qU (v.kids.map (zE n)):=rfl
 have e2:zw (n+1) v=1+(v.kids.map (zw n)).sum:=rfl
 have e3:zr (n+1) v=(zx v&&v.kids.all (zr n)):=rfl
 exact⟨Ws,Ws,by rw [h3,e3]⟩
theorem depth_pos:∀ {n:Nat}(x:V n),1≤zE n x
 | 0,x=>nomatch x
 | n+1,(x:VS (V n))=>by
  have e1:zE (n+1) x=1+qU (x.kids.map (zE n)):=rfl
  omega
theorem yY.keptX {n:Nat}{S:Nat→Prop}{w w':World}{cs:List Value}{v:VS (V n)}{vl vm:Value}{lcs:List (List Value)}{mcs:List (ByteArray×List Value)}{X:List Nat}
  (h:yY (Rep n S w) S w cs v vl vm lcs mcs) (k:zb X w w') (hX:∀ x,x∈X→¬ S x):yY (Rep n S w') S w' cs v vl vm lcs mcs:=
 {cells:=h.cells
  slcl:=h.slcl.kept k (fun g hg hx=>hX g hx (h.inl g hg))
  alll:=h.alll.mono fun _ _ _ r=>Rep.kept r k hX
  slcm:=h.slcm.kept k (fun g hg hx=>hX g hx (h.inm g hg))
  allm:=h.allm.mono fun _ _ _ r=>⟨r.1,Rep.kept r.2 k hX⟩
  inl:=h.inl
  inm:=h.inm
  wfk:=h.wfk
  wfn:=h.wfn }
theorem QU {α:Type}(f:α→Nat) (l:List α) (j:Nat) (h:j<l.length):((l.take j).map f).sum+f l[j]≤(l.map f).sum:=by
 have h1:(l.map f).sum=((l.take (j+1)).map f).sum+((l.drop (j+1)).map f).sum:=by
  rw [← List.sum_append,← List.map_append,List.take_append_drop]
 rw [h1,xK f l j h,List.sum_append]
 simp only [List.sum_cons,List.sum_nil]
 omega
def vV (n : Nat) : Prop := ∀ (v : V n) {S : Nat → Prop} {w : World} {cs : List Value} {Wt : World} {b d c k : Nat} {r : Bool}, Rep n S w cs v → yA n v → n+k ≤ 1000 → d ≤ 100000 → c+zw n v ≤ 100000 → qC Wt → zb [] Wt w → Wt.heap.size ≤ b → WAt w b d c r → (∀ g, S g → g ≠ b) →
    Calls Tryz.prog 130 #[.pointer (some ⟨b,0,none⟩),.agg cs.toArray,.int .i64 k] w fun e w'=>e = .returned (.tuple #[])∧WAt w' b (max d (k+zE n v-1)) (c+zw n v) (r || !zr n v)∧zb [b] w w'
theorem down_any_step {n:Nat}(known:vV n):vV (n+1):=fun (v:VS (V n)) {S}{w}{cs}{Wt}{b}{d}{c}{k}{r} h hs hn hd hc ht hkt hbt hw hS=>by
  have Jg:=qI h
  have Jh:=qI hs
  have HT:=qI ht
  have Ji:=qI hkt
  have HW:=qI hw
  have Je:=qI hS
  obtain⟨vl,vm,lcs,mcs,h⟩:=h
  obtain⟨a,ca,ba,ea,rfl,rfl,rfl⟩:=h.forms
  have H:=qI h
  have IH:=qI known
  have hlv:v.l.length≤20000:=by have:=hs.few;omega
  have hmv:v.m.length≤20000:=by have:=hs.few;omega
  have hbl:b<w.heap.size:=lt_of_block hw
  obtain⟨W0,Ge⟩:∃ W0,Hid (W0=w.alloc (.cells #[.int .i64 v.kind,.int .i64 v.num,.string v.s,.slice a v.l.length ca,.slice ba v.m.length ea] 25)):=⟨_,qI rfl⟩
  have Gc:Hid (zb [] w W0):=qI (kA1 Ge.o)
  have Jj:Hid (qq W0 w.heap.size v.kind v.num v.s (.slice a v.l.length ca) (.slice ba v.m.length ea)):=qI (by rw [Ge.o];exact xr w v.kind v.num v.s (.slice a v.l.length ca) (.slice ba v.m.length ea) 25)
  have Gq:Hid (W0.heap[b]? = some (.cells #[.int .i64 d,.int .i64 c,.bool r] 148 (0,0))):=qI (Gc.o.heap hw Wz)
  obtain⟨c0,c1,c2,c3,c4⟩:=Jj.o
  clear h hs ht hkt hw hS
  go_enter func130,ntmps130
  go_upto_region 1 with fail
  rw [← Ge.o]
  have w0:=za (o:=0) (v:=.int .i64 d) Gq.o rfl
  have w1:=za (o:=1) (v:=.int .i64 c) Gq.o rfl
  have w2:=za (o:=2) (v:=.bool r) Gq.o rfl
  have f0:=zh (o:=0) Gq.o
  have f1:=zh (o:=1) Gq.o
  have f2:=zh (o:=2) Gq.o
  go_upto_region 2 with fail
  have Gh:=qI (zg (v:=.int .i64 ((c:Int)+1)) (i:=1) Gq.o rfl)
  have Gj:Hid (zb [b] W0 (W0.setCell ⟨b,1,none⟩ (.int .i64 ((c:Int)+1)))):=qI (Wd.setCell (.inl Wz) _)
  clear w0 w1 w2 f0 f1 f2
  revert Gh Gj
  generalize W0.setCell ⟨b,1,none⟩ (.int .i64 ((c:Int)+1))=W1
  intro Gh Gj
  have w0:=za (o:=0) (v:=.int .i64 d) Gh.o rfl
  have w1:=za (o:=1) (v:=.int .i64 ((c:Int)+1)) Gh.o rfl
  have w2:=za (o:=2) (v:=.bool r) Gh.o rfl
  have f0:=zh (o:=0) Gh.o
  have f1:=zh (o:=1) Gh.o
  have f2:=zh (o:=2) Gh.o
  go_upto_region 3 with fail
  rw [show max (d:Int) (k:Int)=((max d k:Nat):Int) by omega]
  have Ga:=qI (zg (v:=.int .i64 ((max d k:Nat):Int)) (i:=0) Gh.o rfl)
  have Gf:Hid (zb [b] W0 (W1.setCell ⟨b,0,none⟩ (.int .i64 ((max d k:Nat):Int)))):=qI (Gj.o.setCell (.inl Wz) _)
  clear w0 w1 w2 f0 f1 f2 Gh Gj c0 c1 c2 c3 c4
  revert Ga Gf
  generalize W1.setCell ⟨b,0,none⟩ (.int .i64 ((max d k:Nat):Int))=W2
  intro Ga Gf
  have Gr:Hid (zb [b] w W2):=qI ((Gc.o.mono Wz).trans' Gf.o)
  have Gn:Hid (Rep (n+1) S W2 [.int .i64 v.kind,.int .i64 v.num,.string v.s,.slice a v.l.length ca,.slice ba v.m.length ea] v):=qI (Jg.o.kept Gr.o (fun g hg hSg=>Je.o g hSg (by simpa using hg)))
  have Js:Hid (qC W2):=qI (HT.o.kept0 (Ji.o.trans Gr.o (fun i hi=>by simp at hi;subst hi;exact .inr hbt)))
  have hbne:w.heap.size≠b:=Ws
  obtain⟨c0,c1,c2,c3,c4⟩:=Jj.o.kept Gf.o (by simpa using hbne)
  go_cut [] from 26 to 37 (fun wr=>WAt wr b (max d k) (c+1) (r || !zx v)∧zb [b] W0 wr)
  case first=>
   cases r with
   | true=>
    have w0:=za (o:=0) (v:=.int .i64 ((max d k:Nat):Int)) Ga.o rfl
    have w1:=za (o:=1) (v:=.int .i64 ((c:Int)+1)) Ga.o rfl
    have w2:=za (o:=2) (v:=.bool true) Ga.o rfl
    have f0:=zh (o:=0) Ga.o
    have f1:=zh (o:=1) Ga.o
    have f2:=zh (o:=2) Ga.o
    go_wp2_with fail
    go_meet
    exact⟨zg Ga.o rfl,Gf.o.setCell (.inl Wz) _⟩
   | false=>
    have CP:=qI (plain_any Gn.o Jh.o Js.o)
    have w2:=za (o:=2) (v:=.bool false) Ga.o rfl
    go_wp2_with (go_at_call 170;refine CP.o.mono ?_;rintro e w3 ⟨rfl,hk3⟩;have Jk:=qI (hk3.heap Ga.o Wz);have Gi:=qI hk3;clear hk3 w2;have w2:=za (o:=2) (v:=.bool false) Jk.o rfl;have f2:=zh (o:=2) Jk.o)
    go_meet
    exact⟨zg Jk.o Wz,(Gf.o.then Gi.o).setCell (.inl Wz) _⟩
  case rest=>
   obtain⟨hwc,hkc⟩:=hcut
   clear Ga Gf Gr Gn Js c0 c1 c2 c3 c4
   have Jz:=qI hwc
   have Jt:Hid (zb [b] w wc):=qI ((Gc.o.mono Wz).trans' hkc)
   have Ju:=qI (Jj.o.kept hkc (by simpa using hbne))
   have HX:Hid (∀ {wr},zb [b] w wr→yY (Rep n S wr) S wr _ v _ _ lcs mcs):=qI fun k=>H.o.keptX k (fun x hx hSx=>Je.o x hSx (by simpa using hx))
   have Jv:Hid (zw (n+1) v=1+((v.l.map (zw n)).sum+(v.m.map (fun p=>zw n p.2)).sum)):=qI (by rw [← j8];rfl)
   have Jl:Hid (Seen v d c r k [] (max d k) (c+1) (r || !zx v)):=qI ⟨by simp [qU],Wz,Wz⟩
   clear hwc hkc
   obtain⟨c0,c1,c2,c3,c4⟩:=Ju.o
   go_wp2_with fail
   clear c0 c1 c2 c3 c4
   go_loopw [41] (fun i wr=>∃ (j D C:Nat) (R:Bool),i = .int .i64 j∧j≤v.l.length∧WAt wr b D C R∧Seen v d c r k (v.l.take j) D C R∧zb [b] wc wr) (fun i _=>v.l.length-(intOf i).toNat)
   case atStart=>exact⟨0,_,_,_,rfl,Nat.zero_le _,Jz.o,Jl.o,Wd⟩
   case round=>
    obtain⟨j,D,C,R,rfl,hj,hwt,hse,hkr⟩:=hrel
    have Gp:=qI hwt
    have Gk:=qI hse
    have Gu:=qI hkr
    have Gs:=qI (Jt.o.trans' hkr)
    clear hwt hse hkr
    by_cases hlt:j<v.l.length
    ·have hltI:(j:Int)<v.l.length:=by omega
     obtain⟨g,o,cap,kd,nm,st,a1,b1,he,q0,q1,q2,q3,q4,hr⟩:=(HX.o Gs.o).at_l Wd j hlt
     simp only [Value.slice.injEq] at he
     obtain⟨rfl,-,rfl⟩:=he
     obtain⟨p1,i1,d1,p2,i2,d2,rfl,rfl⟩:=hr.sl
     have hD:D≤100000:=by
      rw [Gk.o.hd]
      have:qU ((v.l.take j).map (zE n))≤n:=bP.2 (fun x hx=>by obtain⟨y,_,rfl⟩:=List.mem_map.1 hx;exact kC n y)
      omega
     have hC:C+zw n v.l[j]≤100000:=by
      rw [Gk.o.hc]
      have:=QU (zw n) v.l j hlt
      have:=Jv.o
      omega
     have HA:=qI ((zb.refl [] wr).alloc (.cells #[.int .i64 kd,.int .i64 nm,.string st,.slice p1 i1 d1,.slice p2 i2 d2] 25))
     have CL:=qI (IH.o v.l[j] (hr.kept0 HA.o) (Jh.o.kid (kZ (List.getElem_mem hlt))) (k:=k+1) Ws hD hC HT.o ((Ji.o.trans Gs.o (fun i hi=>by simp at hi;subst hi;exact .inr hbt)).then HA.o) hbt (Gp.o.kept HA.o Wz) Je.o)
     rw [show ((k+1:Nat):Int)=(k:Int)+1 from rfl] at CL
     have Gv:=qI (Gk.o.snoc v.l[j] (depth_pos _))
     have Gw:Hid (v.l.take (j+1)=v.l.take j++[v.l[j]]):=qI (List.take_succ_eq_append_getElem hlt)
     clear hr hD hC
     go_wp2_with (go_at_call 130;refine CL.o.mono ?_;rintro e w2 ⟨rfl,hw2,hk2⟩;have Ga:=qI hw2;have Gf:=qI hk2;clear hw2 hk2)
     case roundEnd=>exact⟨⟨j+1,_,_,_,by go_num,Ws,Ga.o,by rw [Gw.o];exact Gv.o,(Gu.o.then HA.o).trans' Gf.o⟩,by simp [intOf];omega⟩
    ·obtain rfl:j=v.l.length:=by omega
     obtain⟨c0,c1,c2,c3,c4⟩:=Ju.o.kept Gu.o (by simpa using hbne)
     have Ja:Hid (Seen v d c r k (v.l++(v.m.take 0).map (fun p=>p.2)) D C R):=qI (by have:=Gk.o;rw [List.take_length] at this;simpa using this)
     have Jb:=qI Gp.o
     have Jc:=qI Gu.o
     clear Gk Gp Gu Gs
     go_wp2_with fail
     clear c0 c1 c2 c3 c4
     go_loopw [54] (fun i wr=>∃ (j D C:Nat) (R:Bool),i = .int .i64 j∧j≤v.m.length∧WAt wr b D C R∧Seen v d c r k (v.l++(v.m.take j).map (fun p=>p.2)) D C R∧zb [b] wc wr) (fun i _=>v.m.length-(intOf i).toNat)
     case atStart=>exact⟨0,_,_,_,rfl,Nat.zero_le _,Jb.o,Ja.o,Jc.o⟩
     case round=>
      obtain⟨j,D,C,R,rfl,hj,hwt,hse,hkr⟩:=hrel
      clear Ja Jb Jc
      have Gp:=qI hwt
      have Gk:=qI hse
      have Gu:=qI hkr
      have Gs:=qI (Jt.o.trans' hkr)
      clear hwt hse hkr
      by_cases hlt:j<v.m.length
      ·have hltI:(j:Int)<v.m.length:=by omega
       obtain⟨g,o,cap,kd,nm,st,a1,b1,he,q0,q1,q2,q3,q4,q5,hr⟩:=(HX.o Gs.o).at_m Wd j hlt
       simp only [Value.slice.injEq] at he
       obtain⟨rfl,-,rfl⟩:=he
       obtain⟨p1,i1,d1,p2,i2,d2,rfl,rfl⟩:=hr.sl
       have hD:D≤100000:=by
        rw [Gk.o.hd]
        have:qU ((v.l++(v.m.take j).map (fun p=>p.2)).map (zE n))≤n:=bP.2 (fun x hx=>by obtain⟨y,_,rfl⟩:=List.mem_map.1 hx;exact kC n y)
        omega
       have hC:C+zw n v.m[j].2≤100000:=by
        rw [Gk.o.hc,List.map_append,List.sum_append,List.map_map]
        have:=QU (fun p:ByteArray×V n=>zw n p.2) v.m j hlt
        have:=Jv.o
        have e:((v.m.take j).map (zw n ∘ fun p=>p.2)).sum=((v.m.take j).map (fun p=>zw n p.2)).sum:=rfl
        omega
       have Gw:Hid (v.l++(v.m.take (j+1)).map (fun p=>p.2)=(v.l++(v.m.take j).map (fun p=>p.2))++[v.m[j].2]):=qI (by rw [xK _ _ _ hlt,List.append_assoc])
       have Gv:=qI (Gk.o.snoc v.m[j].2 (depth_pos _))
       have HA:=qI ((zb.refl [] wr).alloc (.cells #[.string v.m[j].1,.int .i64 kd,.int .i64 nm,.string st,.slice p1 i1 d1,.slice p2 i2 d2] 132))
       have CL:=qI (IH.o v.m[j].2 (hr.kept0 HA.o) (Jh.o.kid (k9 (List.getElem_mem hlt))) (k:=k+1) Ws hD hC HT.o ((Ji.o.trans Gs.o (fun i hi=>by simp at hi;subst hi;exact .inr hbt)).then HA.o) hbt (Gp.o.kept HA.o Wz) Je.o)
       rw [show ((k+1:Nat):Int)=(k:Int)+1 from rfl] at CL
       clear hr hD hC
       revert q0 Gw Gv HA CL
       generalize v.m[j]=pr
       obtain⟨key,x⟩:=pr
       intro q0 Gw Gv HA CL
       simp only at q0 Gw Gv HA CL
       go_wp2_with (go_at_call 130;refine CL.o.mono ?_;rintro e w2 ⟨rfl,hw2,hk2⟩;have Ga:=qI hw2;have Gf:=qI hk2;clear hw2 hk2)
       case roundEnd=>exact⟨⟨j+1,_,_,_,by go_num,Ws,Ga.o,by rw [Gw.o];exact Gv.o,(Gu.o.then HA.o).trans' Gf.o⟩,by simp [intOf];omega⟩
      ·obtain rfl:j=v.m.length:=by omega
       have Ma:Hid (Seen v d c r k v.kids D C R):=qI (by have:=Gk.o;rw [List.take_length] at this;exact this)
       obtain⟨e1,e2,e3⟩:=Ma.o.all
       have Jm:Hid (WAt wr b (max d (k+zE (n+1) v-1)) (c+zw (n+1) v) (r || !zr (n+1) v)):=qI (by rw [← e1,← e2,← e3];exact Gp.o)
       clear e1 e2 e3
       go_wp2_with fail
       go_end0
       exact⟨rfl,Jm.o,Gs.o⟩
theorem Zo:∀ (n:Nat),vV n
 | 0=>fun v {_}{_}{_}{_}{_}{_}{_}{_}{_} h _ _ _ _ _ _ _ _ _=>h.elim
 | n+1=>down_any_step (Zo n)
theorem down_any:∀ (n:Nat) (v:V n) {S:Nat→Prop}{w:World}{cs:List Value}{Wt:World}{b d c k:Nat}{r:Bool},Rep n S w cs v→yA n v→n+k≤1000→d≤100000→c+zw n v≤100000→qC Wt→zb [] Wt w→Wt.heap.size≤b→WAt w b d c r→(∀ g,S g→g≠b) →
  Calls Tryz.prog 130 #[.pointer (some ⟨b,0,none⟩),.agg cs.toArray,.int .i64 k] w fun e w'=>e = .returned (.tuple #[])∧WAt w' b (max d (k+zE n v-1)) (c+zw n v) (r || !zr n v)∧zb [b] w w':=fun n=>Zo n
theorem look_any {n:Nat}{v:V n}{S:Nat→Prop}{w:World}{cs:List Value}(h:Rep n S w cs v) (hs:yA n v) (hn:n≤100) (ht:qC w) :
  Calls Tryz.prog 97 #[.agg cs.toArray] w fun e w'=>(∃ b,e = .returned (.pointer (some ⟨b,0,none⟩))∧WAt w' b (zE n v) (zw n v) (!zr n v))∧zb [] w w':=by
 obtain⟨kd,nm,st,a1,b1,rfl⟩:=h.five
 obtain⟨p1,i1,d1,p2,i2,d2,rfl,rfl⟩:=h.sl
 obtain⟨W0,Ge⟩:∃ W0,Hid (W0=w.alloc (.cells #[.int .i64 kd,.int .i64 nm,.string st,.slice p1 i1 d1,.slice p2 i2 d2] 25)):=⟨_,qI rfl⟩
 obtain⟨W1,Gh⟩:∃ W1,Hid (W1=W0.alloc (.cells #[.int .i64 0,.int .i64 0,.bool false] 148)):=⟨_,qI rfl⟩
 have Gc:Hid (zb [] w W0):=qI (kA1 Ge.o)
 have Gj:Hid (zb [] w W1):=qI (by rw [Gh.o];exact Gc.o.alloc _)
 have Mb:Hid (W0.heap.size=w.heap.size+1):=qI (by rw [Ge.o];simp)
 have Jn:Hid (qq W1 w.heap.size kd nm st (.slice p1 i1 d1) (.slice p2 i2 d2)):=qI (by rw [Gh.o,Ge.o];exact (xr _ _ _ _ _ _ _).kept0 (Wd.alloc _))
 have Gp:Hid (WAt W1 (w.heap.size+1) 0 0 false):=qI (by rw [Gh.o];exact zd Mb.o)
 have hct:=hs.1
 have CL:=qI (down_any n v ((h.mono (T:=fun g=>g<w.heap.size) (fun g hg _=>hg)).kept0 Gj.o) hs (k:=1) Ws (Nat.zero_le _) Ws ht Gj.o (Nat.le_succ _) Gp.o (fun g hg=>by omega))
 clear h hs ht hct
 rw [show ((1:Nat):Int)=1 from rfl] at CL
 have HD:Hid (max 0 (1+zE n v-1)=zE n v∧0+zw n v=zw n v):=qI Ws
 go_enter func97,ntmps97
 go_wp2_with fail
 rw [← Ge.o,← Gh.o]
 refine CL.o.mono ?_
 rintro e w2 ⟨rfl,hw2,hk2⟩
 have Ga:Hid (WAt w2 (w.heap.size+1) (zE n v) (zw n v) (!zr n v)):=qI (by rw [HD.o.1,HD.o.2] at hw2;simpa using hw2)
 have Gf:=qI hk2
 clear hw2 hk2
 go_wp2_with fail
 go_ret
 exact⟨⟨_,rfl,Ga.o⟩,Gj.o.trans Gf.o (fun i hi=>by simp at hi;subst hi;exact .inr (Nat.le_succ _))⟩
theorem Qw {n:Nat}{v:V n}{S:Nat→Prop}{w:World}{cs:List Value}(h:Rep n S w cs v) (hs:yA n v) (hn:n≤100) (ht:qC w) :
  CL w 55 #[.agg cs.toArray] (.int .i64 (yQ n v)):=by
 obtain⟨kd,nm,st,a1,b1,rfl⟩:=h.five
 obtain⟨p1,i1,d1,p2,i2,d2,rfl,rfl⟩:=h.sl
 obtain⟨W0,Ge⟩:∃ W0,Hid (W0=w.alloc (.cells #[.int .i64 kd,.int .i64 nm,.string st,.slice p1 i1 d1,.slice p2 i2 d2] 25)):=⟨_,qI rfl⟩
 have Gc:Hid (zb [] w W0):=qI (kA1 Ge.o)
 have CL:=qI (look_any (h.kept0 Gc.o) hs hn (ht.kept0 Gc.o))
 have hct:=hs.1
 have hdt:zE n v≤100:=Nat.le_trans (kC n v) hn
 have HC:Hid (yQ n v=if 12<zE n v then 41 else if 4096<zw n v then 42 else if zr n v then 0 else 40):=qI rfl
 clear h hs ht
 revert CL hct hdt HC
 generalize zE n v=D
 generalize zw n v=C
 generalize zr n v=R
 generalize yQ n v=K
 intro CL hct hdt HC
 by_cases h1:12<D
 ·have h1I:(12:Int)<D:=by omega
  have HF:Hid (K=41):=qI (by rw [HC.o,if_pos h1])
  go_enter func55,ntmps55
  go_wp2_with fail
  rw [← Ge.o]
  refine CL.o.mono ?_
  rintro e w2 ⟨⟨b,rfl,hw2⟩,hk2⟩
  have c0:=za (o:=0) (v:=.int .i64 D) hw2 rfl
  have c1:=za (o:=1) (v:=.int .i64 C) hw2 rfl
  have c2:=za (o:=2) (v:=.bool (!R)) hw2 rfl
  have Gf:=qI (Gc.o.then hk2)
  clear hw2 hk2
  go_wp2_with fail
  go_ret
  rw [HF.o]
  exact⟨rfl,Gf.o⟩
 have h1I:¬ (12:Int)<D:=Ws
 by_cases h2:4096<C
 ·have h2I:(4096:Int)<C:=by omega
  have HF:Hid (K=42):=qI (by rw [HC.o,if_neg h1,if_pos h2])
  go_enter func55,ntmps55
  go_wp2_with fail
  rw [← Ge.o]
  refine CL.o.mono ?_
  rintro e w2 ⟨⟨b,rfl,hw2⟩,hk2⟩
  have c0:=za (o:=0) (v:=.int .i64 D) hw2 rfl
  have c1:=za (o:=1) (v:=.int .i64 C) hw2 rfl
  have c2:=za (o:=2) (v:=.bool (!R)) hw2 rfl
  have Gf:=qI (Gc.o.then hk2)
  clear hw2 hk2
  go_wp2_with fail
  go_ret
  rw [HF.o]
  exact⟨rfl,Gf.o⟩
 have h2I:¬ (4096:Int)<C:=Ws
 cases R with
 | true=>
  have HF:Hid (K=0):=qI (by rw [HC.o,if_neg h1,if_neg h2,if_pos rfl])
  clear h1 h2
  go_enter func55,ntmps55
  go_wp2_with fail
  rw [← Ge.o]
  refine CL.o.mono ?_
  rintro e w2 ⟨⟨b,rfl,hw2⟩,hk2⟩
  have c0:=za (o:=0) (v:=.int .i64 D) hw2 rfl
  have c1:=za (o:=1) (v:=.int .i64 C) hw2 rfl
  have c2:=za (o:=2) (v:=.bool false) hw2 rfl
  have Gf:=qI (Gc.o.then hk2)
  clear hw2 hk2
  go_wp2_with fail
  go_ret
  rw [HF.o]
  exact⟨rfl,Gf.o⟩
 | false=>
  have HF:Hid (K=40):=qI (by rw [HC.o,if_neg h1,if_neg h2,if_neg Wz])
  clear h1 h2
  go_enter func55,ntmps55
  go_wp2_with fail
  rw [← Ge.o]
  refine CL.o.mono ?_
  rintro e w2 ⟨⟨b,rfl,hw2⟩,hk2⟩
  have c0:=za (o:=0) (v:=.int .i64 D) hw2 rfl
  have c1:=za (o:=1) (v:=.int .i64 C) hw2 rfl
  have c2:=za (o:=2) (v:=.bool true) hw2 rfl
  have Gf:=qI (Gc.o.then hk2)
  clear hw2 hk2
  go_wp2_with fail
  go_ret
  rw [HF.o]
  exact⟨rfl,Gf.o⟩
def set5 (w:World) (r:Nat) (b0 b1 b2 b3 b4:Value):World:=((((w.setCell ⟨r,0,none⟩ b0).setCell ⟨r,1,none⟩ b1).setCell ⟨r,2,none⟩ b2).setCell ⟨r,3,none⟩ b3).setCell ⟨r,4,none⟩ b4
theorem set5_facts {w WF:World}{r T:Nat}{a0 a1 a2 a3 a4 b0 b1 b2 b3 b4:Value}(hb:w.heap[r]? = some (.cells #[a0,a1,a2,a3,a4] T (0,0))) (e:WF=set5 w r b0 b1 b2 b3 b4) :
  zb [r] w WF∧WF.heap[r]? = some (.cells #[b0,b1,b2,b3,b4] T (0,0)):=by
 subst e
 refine⟨?_,zg (i:=4) (zg (i:=3) (zg (i:=2) (zg (i:=1) (zg (i:=0) hb rfl) rfl) rfl) rfl) rfl⟩
 exact (((((zb.refl [r] w).setCell (p:=⟨r,0,none⟩) (.inl Wz) _).setCell (p:=⟨r,1,none⟩) (.inl Wz) _).setCell (p:=⟨r,2,none⟩) (.inl Wz) _).setCell (p:=⟨r,3,none⟩) (.inl Wz) _).setCell (p:=⟨r,4,none⟩) (.inl Wz) _
theorem jd.move:∀ {n:Nat}{B B':Nat}{X:List Nat}{w w':World}{cs:List Value}{v:V n},jd n B w cs v→zb X w w'→(∀ g,g∈X→g<B)→B'≤B→jd n B' w' cs v
 | 0,_,_,_,_,_,_,_,h,_,_,_=>h.elim
 | n+1,B,B',X,w,w',cs,v,h,k,hX,hB=>by
  obtain⟨vl,vm,lcs,mcs,h1,h2,h3,h4,h5,h6,h7⟩:=h
  refine⟨vl,vm,lcs,mcs,h1,?_,h3.mono fun _ _ _ r=>r.move k (fun g _ q=>⟨fun hx=>by have:=hX g hx;omega,Ws,q.2⟩),?_,h5.mono fun _ _ _ r=>⟨r.1,r.2.move k (fun g _ q=>⟨fun hx=>by have:=hX g hx;omega,Ws,q.2⟩)⟩,h6,h7⟩
  ·exact qD (zo h2 k (fun g hg hx=>by have:=(h2.lt g hg).1;have:=hX g hx;omega)) (fun g hg=>by have:=(h2.lt g hg).1;omega)
  ·exact qD (zo h4 k (fun g hg hx=>by have:=(h4.lt g hg).1;have:=hX g hx;omega)) (fun g hg=>by have:=(h4.lt g hg).1;omega)
theorem Zg {n:Nat}{v:V n}(h:yQ n v=0):zr n v=true:=(kH.1 h).2.2
theorem Sorted_any {n:Nat}{v:V n}{S:Nat→Prop}{w:World}{cs:List Value}(h:Rep n S w cs v) (hs:yA n v) (hn:n≤100) (ht:qC w) (hc:yQ n v=0) :
  Calls Tryz.prog 150 #[.agg cs.toArray] w fun e w'=>(∃ cs':List Value,e = .returned (.agg cs'.toArray)∧jd n w.heap.size w' cs' (zy n v))∧zb [] w w':=by
 obtain⟨kd,nm,st,a,ca,ea,b,cb,eb,rfl⟩:=h.conv
 obtain⟨W0,Ge⟩:∃ W0,Hid (W0=(w.alloc (.cells #[.int .i64 kd,.int .i64 nm,.string st,.slice a ca ea,.slice b cb eb] 25)).alloc (.cells #[.int .i64 0,.int .i64 0,.string ⟨#[]⟩,.slice none 0 0,.slice none 0 0] 25)):=⟨_,qI rfl⟩
 have Jo:Hid (W0.heap.size=w.heap.size+2):=qI (by rw [Ge.o];simp)
 have Gc:Hid (zb [] w W0):=qI (kA2 Ge.o)
 have Jn:Hid (qq W0 w.heap.size kd nm st (.slice a ca ea) (.slice b cb eb)):=qI (by
  rw [Ge.o]
  have h1:=xr w kd nm st (.slice a ca ea) (.slice b cb eb) 25
  exact h1.kept ((zb.refl [] _).alloc _) Wz)
 have Mc:Hid (W0.heap[w.heap.size+1]? = some (.cells #[.int .i64 0,.int .i64 0,.string ⟨#[]⟩,.slice none 0 0,.slice none 0 0] 25 (0,0))):=qI (by
  rw [Ge.o];exact zd Wz)
 have CC:Hid (Calls Tryz.prog 55 #[.agg #[.int .i64 kd,.int .i64 nm,.string st,.slice a ca ea,.slice b cb eb]] W0 _):=qI (Qw (h.kept0 Gc.o) hs hn (ht.kept0 Gc.o))
 have CS:=qI (fun (w1:World) (k:zb [] W0 w1)=>sorted_any n v ((h.kept0 Gc.o).kept0 k) hs (Zg hc))
 have Md:=qI hc
 clear h hs ht hc
 obtain⟨c0,c1,c2,c3,c4⟩:=Jn.o
 rw [Ge.o] at c0 c1 c2 c3 c4
 go_enter func150,ntmps150
 go_wp2_with fail
 rw [← Ge.o]
 refine CC.o.mono ?_
 rintro e w1 ⟨rfl,hk1⟩
 have Gj:=qI hk1
 clear c0 c1 c2 c3 c4
 rw [Md.o]
 obtain⟨c0,c1,c2,c3,c4⟩:=Jn.o.kept hk1 Wz
 clear hk1
 go_wp2_with fail
 refine (CS.o _ Gj.o).mono ?_
 rintro e w5 ⟨⟨cs',rfl,hown⟩,hk5⟩
 obtain⟨k5,m5,s5,p5,i5,e5,q5,j5,d5,rfl⟩:=hown.rep.conv
 have Jp:=qI hown
 have Gx:=qI (Gj.o.then hk5)
 have hbr:=Gx.o.heap Mc.o Wz
 have Me:=qI hbr
 have r0:=za (o:=0) (v:=.int .i64 0) hbr rfl
 have r1:=za (o:=1) (v:=.int .i64 0) hbr rfl
 have r2:=za (o:=2) (v:=.string ⟨#[]⟩) hbr rfl
 have r3:=za (o:=3) (v:=.slice none 0 0) hbr rfl
 have r4:=za (o:=4) (v:=.slice none 0 0) hbr rfl
 have f0:=zh (o:=0) hbr
 have f1:=zh (o:=1) hbr
 have f2:=zh (o:=2) hbr
 have f3:=zh (o:=3) hbr
 have f4:=zh (o:=4) hbr
 have Jq:Hid (w.heap.size+2≤w1.heap.size):=qI (by have:=Gj.o.size;have:=Jo.o;omega)
 clear hbr hown hk5 c0 c1 c2 c3 c4
 go_wp2_with fail
 obtain⟨WF,e⟩:∃ WF,WF=set5 w5 (w.heap.size+1) (.int .i64 k5) (.int .i64 m5) (.string s5) (.slice p5 i5 e5) (.slice q5 j5 d5):=⟨_,rfl⟩
 obtain⟨KF,hbf⟩:=set5_facts Me.o e
 unfold set5 at e
 rw [← e]
 have x0:=za (o:=0) (v:=.int .i64 k5) hbf rfl
 have x1:=za (o:=1) (v:=.int .i64 m5) hbf rfl
 have x2:=za (o:=2) (v:=.string s5) hbf rfl
 have x3:=za (o:=3) (v:=.slice p5 i5 e5) hbf rfl
 have x4:=za (o:=4) (v:=.slice q5 j5 d5) hbf rfl
 have hz:=Jq.o
 exact bodyPost_ret (v:=.agg #[.int .i64 k5,.int .i64 m5,.string s5,.slice p5 i5 e5,.slice q5 j5 d5]) (by simp [results,results150,go_sem,x0,x1,x2,x3,x4]) rfl ⟨⟨_,rfl,Jp.o.move KF (fun g hg=>by simp at hg;omega) Ws⟩,(Gc.o.then Gx.o).trans KF (fun i hi=>by simp at hi;exact .inr Ws)⟩
def ZB (n:Nat):Prop:=∀ (v:V n) {S:Nat→Prop}{W w:World}{cs:List Value}{b:Nat}{l:List UInt8},Rep n S W cs v→(∀ g,S g→g≠b)→zr n v=true→yA n v→TabsB b W→BW 200 W b w l→l.length+(zt n v).length≤50000000 →
 Calls Tryz.prog 149 #[.pointer (some ⟨b,0,none⟩),.agg cs.toArray] w fun e w'=>e = .returned (.tuple #[])∧BW 200 W b w' (l++zt n v)∧yi b w w'
structure bV (b b2 b3:Nat) (cs:List Value) (w:World):Prop where
 ptr:w.heap[b2]? = some (.cells #[.pointer (some ⟨b,0,none⟩)] 198 (0,0))
 val:w.heap[b3]? = some (.cells cs.toArray 25 (0,0))
theorem bV.kept {b b2 b3:Nat}{cs:List Value}{w w':World}(h:bV b b2 b3 cs w) (h2:b2≠b) (h3:b3≠b) (k:yi b w w'):bV b b2 b3 cs w':=
 ⟨k.heap h.ptr h2 (by rw [zM h.ptr];decide),k.heap h.val h3 (by rw [zM h.val];decide)⟩
section
variable {n : Nat} {v : VS (V n)} {S : Nat → Prop} {W w : World} {cs : List Value} {b b2 b3 k : Nat} {l : List UInt8} {a d : Option Addr} {c e : Nat} {lcs : List (List Value)} {mcs : List (ByteArray × List Value)}
theorem put1_any (IH:ZB n) (H:yY (Rep n S W) S W cs v (.slice a v.l.length c) (.slice d v.m.length e) lcs mcs) (hS:∀ g,S g→g≠b) (hr:zr (n+1) v=true) (hs:yA (n+1) v) (ht:TabsB b W) (h23:b2≠b∧b3≠b)
  (hc:bV b b2 b3 [.int .i64 v.kind,.int .i64 v.num,.string v.s,.slice a v.l.length c,.slice d v.m.length e] w) (hb:BW 200 W b w l) (hk:k<v.l.length) (hl:l.length+(zt n v.l[k]).length≤50000000) :
  Calls Tryz.prog 187 #[.int .i64 k,.pointer (some ⟨b2,0,none⟩),.pointer (some ⟨b3,0,none⟩)] w fun r w2=>r = .returned (.tuple #[])∧BW 200 W b w2 (l++zt n v.l[k])∧yi b w w2:=by
 obtain⟨g,o,cap,kd,nm,st,a1,b1,he,q0,q1,q2,q3,q4,hrk⟩:=H.at_l Wd k hk
 simp only [Value.slice.injEq] at he
 obtain⟨rfl,-,rfl⟩:=he
 have hg:g≠b:=hS g (H.inl g (ji Ws))
 obtain⟨p1,i1,d1,p2,i2,d2,rfl,rfl⟩:=hrk.sl
 have hgb:g ∉ [b]:=by simpa using hg
 have Gb:Hid (∀ w1,zb [b] W w1→w1.cell? ⟨g,o+k*5,none⟩=some (.int .i64 kd)∧w1.cell? ⟨g,o+k*5+1,none⟩=some (.int .i64 nm)∧w1.cell? ⟨g,o+k*5+2,none⟩=some (.string st)∧w1.cell? ⟨g,o+k*5+3,none⟩=some (.slice p1 i1 d1)∧w1.cell? ⟨g,o+k*5+4,none⟩=some (.slice p2 i2 d2)):=
  qI fun w1 k1=>⟨k1.cell q0 hgb,k1.cell q1 hgb,k1.cell q2 hgb,k1.cell q3 hgb,k1.cell q4 hgb⟩
 have Gd:Hid (∀ w1,yi b w w1→w1.cell? ⟨b2,0,none⟩=some (.pointer (some ⟨b,0,none⟩))∧w1.cell? ⟨b3,3,none⟩=some (.slice (some ⟨g,o,none⟩) v.l.length c)):=
  qI fun w1 k1=>⟨za (o:=0) (v:=.pointer (some ⟨b,0,none⟩)) (hc.kept h23.1 h23.2 k1).ptr rfl,za (o:=3) (v:=.slice (some ⟨g,o,none⟩) v.l.length c) (hc.kept h23.1 h23.2 k1).val rfl⟩
 obtain⟨r0,r1,r2,r3,r4⟩:=Gb.o w hb.kept
 obtain⟨c2,c3⟩:=Gd.o w (yi.refl _ _)
 have hkI:(k:Int)<v.l.length:=Ws
 have CL:Hid (∀ w1,BW 200 W b w1 l→_):=qI (fun w1 (h1:BW 200 W b w1 l)=>IH v.l[k] hrk hS (qR hr (kZ (List.getElem_mem hk))) (hs.kid (kZ (List.getElem_mem hk))) ht h1 hl)
 have HB:=qI hb
 have Jr:Hid (v.l.length≤20000):=qI (by have:=hs.few;omega)
 have HK:Hid (k<v.l.length):=qI hk
 clear H hS hr hs ht hc hb q0 q1 q2 q3 q4 hrk hg hgb IH
 revert CL
 generalize zt n v.l[k]=T
 intro CL
 clear hl hk
 go_enter func187,ntmps187
 refine zv (n:=7) (fun w':World=>w'.cell? ⟨b2,0,none⟩=some (.pointer (some ⟨b,0,none⟩))∧w'.cell? ⟨b3,3,none⟩=some (.slice (some ⟨g,o,none⟩) v.l.length c)∧w'.cell? ⟨g,o+k*5,none⟩=some (.int .i64 kd)∧w'.cell? ⟨g,o+k*5+1,none⟩=some (.int .i64 nm)∧w'.cell? ⟨g,o+k*5+2,none⟩=some (.string st)∧w'.cell? ⟨g,o+k*5+3,none⟩=some (.slice p1 i1 d1)∧w'.cell? ⟨g,o+k*5+4,none⟩=some (.slice p2 i2 d2)) 7 Wr Wr ?_
 change zX _ _ _ _ _ _ _ _ _ w.drew
 have hSS:(fun w':World=>w'.cell? ⟨b2,0,none⟩=some (.pointer (some ⟨b,0,none⟩))∧w'.cell? ⟨b3,3,none⟩=some (.slice (some ⟨g,o,none⟩) v.l.length c)∧w'.cell? ⟨g,o+k*5,none⟩=some (.int .i64 kd)∧w'.cell? ⟨g,o+k*5+1,none⟩=some (.int .i64 nm)∧w'.cell? ⟨g,o+k*5+2,none⟩=some (.string st)∧w'.cell? ⟨g,o+k*5+3,none⟩=some (.slice p1 i1 d1)∧w'.cell? ⟨g,o+k*5+4,none⟩=some (.slice p2 i2 d2)) w.drew:=⟨c2,c3,r0,r1,r2,r3,r4⟩
 have Gg:Hid (zb [] w w.drew):=qI Wd.drew
 clear c2 c3 r0 r1 r2 r3 r4
 revert hSS Gg
 generalize w.drew=WD
 intro hSS Gg
 refine zL ?_
 intro O R hO hR
 have hQp:jC R:=by subst hR;exact fun _ _ _ _ _ h=>h
 refine qT 0 ?_ hO rfl rfl Wr hQp (fun w hSw=>?_) hSS ?_
 rotate_left
 ·obtain⟨s0,s1,s2,s3,s4,s5,s6⟩:=hSw;exact zi
 try simp only [zA,zN,zB,zC,zD]
 refine qT 1 ?_ hO rfl rfl Wr hQp (fun w hSw=>?_) hSS ?_
 rotate_left
 ·obtain⟨s0,s1,s2,s3,s4,s5,s6⟩:=hSw;exact zi
 try simp only [zA,zN,zB,zC,zD]
 refine qT 2 ?_ hO rfl rfl Wr hQp (fun w hSw=>?_) hSS ?_
 rotate_left
 ·obtain⟨s0,s1,s2,s3,s4,s5,s6⟩:=hSw;exact zi
 try simp only [zA,zN,zB,zC,zD]
 refine qT 3 ?_ hO rfl rfl Wr hQp (fun w hSw=>?_) hSS ?_
 rotate_left
 ·obtain⟨s0,s1,s2,s3,s4,s5,s6⟩:=hSw;exact zi
 try simp only [zA,zN,zB,zC,zD]
 refine qT 4 ?_ hO rfl rfl Wr hQp (fun w hSw=>?_) hSS ?_
 rotate_left
 ·obtain⟨s0,s1,s2,s3,s4,s5,s6⟩:=hSw;exact zi
 try simp only [zA,zN,zB,zC,zD]
 refine qT 5 ?_ hO rfl rfl Wr hQp (fun w hSw=>?_) hSS ?_
 rotate_left
 ·obtain⟨s0,s1,s2,s3,s4,s5,s6⟩:=hSw;exact zi
 try simp only [zA,zN,zB,zC,zD]
 refine qO 6 hO rfl Wr (fun K hK=>?_)
 go_simp
 refine Calls.mono (CL.o _ (HB.o.stay Gg.o)) ?_
 rintro e w3 ⟨rfl,hb3,hk3⟩
 have Jd:=qI hb3
 have Gi:=qI ((yi.of0 Gg.o).trans hk3)
 clear hb3 hk3
 refine hK _ _ (.inr ⟨(Gd.o w3 Gi.o).1,(Gd.o w3 Gi.o).2,Gb.o w3 Jd.o.kept⟩) ?_
 clear hK K
 try simp only [zA,zN,zB,zC,zD]
 refine zF hO Wr ?_ _
 subst hR
 try clear hQp hO O
 go_wp2_with fail
 go_end0
 exact⟨rfl,Jd.o,Gi.o⟩
theorem put2_any (IH:ZB n) (H:yY (Rep n S W) S W cs v (.slice a v.l.length c) (.slice d v.m.length e) lcs mcs) (hS:∀ g,S g→g≠b) (hr:zr (n+1) v=true) (hs:yA (n+1) v) (ht:TabsB b W) (hkey:v.kind=6) (h23:b2≠b∧b3≠b)
  (hc:bV b b2 b3 [.int .i64 v.kind,.int .i64 v.num,.string v.s,.slice a v.l.length c,.slice d v.m.length e] w) (hb:BW 200 W b w l) (hk:k<v.m.length) (hl:l.length+(yG v.m[k].1.data.toList++(58::zt n v.m[k].2)).length≤50000000) :
  Calls Tryz.prog 188 #[.int .i64 k,.pointer (some ⟨b2,0,none⟩),.pointer (some ⟨b3,0,none⟩)] w fun r w2=>r = .returned (.tuple #[])∧BW 200 W b w2 (l++(yG v.m[k].1.data.toList++(58::zt n v.m[k].2)))∧yi b w w2:=by
 obtain⟨g,o,cap,kd,nm,st,a1,b1,he,qk,q0,q1,q2,q3,q4,hrk⟩:=H.at_m Wd k hk
 simp only [Value.slice.injEq] at he
 obtain⟨rfl,-,rfl⟩:=he
 have hg:g≠b:=hS g (H.inm g (ji Ws))
 obtain⟨p1,i1,d1,p2,i2,d2,rfl,rfl⟩:=hrk.sl
 have hgb:g ∉ [b]:=by simpa using hg
 have Gb:Hid (∀ w1,zb [b] W w1→w1.cell? ⟨g,o+k*6,none⟩=some (.string v.m[k].1)∧w1.cell? ⟨g,o+k*6+1,none⟩=some (.int .i64 kd)∧w1.cell? ⟨g,o+k*6+2,none⟩=some (.int .i64 nm)∧w1.cell? ⟨g,o+k*6+3,none⟩=some (.string st)∧w1.cell? ⟨g,o+k*6+4,none⟩=some (.slice p1 i1 d1)∧w1.cell? ⟨g,o+k*6+5,none⟩=some (.slice p2 i2 d2)):=
  qI fun w1 k1=>⟨k1.cell qk hgb,k1.cell q0 hgb,k1.cell q1 hgb,k1.cell q2 hgb,k1.cell q3 hgb,k1.cell q4 hgb⟩
 have Gd:Hid (∀ w1,yi b w w1→w1.cell? ⟨b2,0,none⟩=some (.pointer (some ⟨b,0,none⟩))∧w1.cell? ⟨b3,4,none⟩=some (.slice (some ⟨g,o,none⟩) v.m.length e)):=
  qI fun w1 k1=>⟨za (o:=0) (v:=.pointer (some ⟨b,0,none⟩)) (hc.kept h23.1 h23.2 k1).ptr rfl,za (o:=4) (v:=.slice (some ⟨g,o,none⟩) v.m.length e) (hc.kept h23.1 h23.2 k1).val rfl⟩
 have hkI:(k:Int)<v.m.length:=Ws
 have hkz:(v.m[k].1).size≤400000:=Nat.le_trans (key_le (List.getElem_mem hk)) hs.2
 have hok:xA v.m=true:=by
  rcases jh (jf hr) with h | h | h | h | h | h
  ·rw [hkey] at h;exact absurd h.1 Wo
  ·rw [hkey] at h;exact absurd h.1 Wo
  ·rw [hkey] at h;exact absurd h.1 Wo
  ·rw [hkey] at h;exact absurd h.1 Wo
  ·rw [hkey] at h;exact absurd h.1 Wo
  ·exact h.2.2.2.2
 have hkv:zQ v.m[k].1=true:=by
  unfold xA at hok
  rw [Bool.and_eq_true,List.all_eq_true] at hok
  exact hok.1 _ (List.getElem_mem hk)
 have hlen:l.length+(yG v.m[k].1.data.toList).length+1+(zt n v.m[k].2).length≤50000000:=by
  rw [List.length_append,List.length_cons] at hl
  omega
 have CL:Hid (∀ w1 l1,BW 200 W b w1 l1→l1.length+(zt n v.m[k].2).length≤50000000→_):=qI (fun w1 l1 (h1:BW 200 W b w1 l1) hl1=>IH v.m[k].2 hrk hS (qR hr (k9 (List.getElem_mem hk))) (hs.kid (k9 (List.getElem_mem hk))) ht h1 hl1)
 have HB:=qI hb
 have HT:=qI ht
 have Jr:Hid (v.m.length≤20000):=qI (by have:=hs.few;omega)
 have HA:Hid (∀ x y:List UInt8,l++x++[58]++y=l++(x++(58::y))):=qI (by intro x y;simp)
 clear H hS hr hs ht hc hb qk q0 q1 q2 q3 q4 hrk hg hgb IH hok hl
 revert CL Gb hkz hkv hlen
 generalize zt n v.m[k].2=T
 generalize v.m[k].1=key
 intro Gb hkz hkv hlen CL
 clear hk
 obtain⟨r0,r1,r2,r3,r4,r5⟩:=Gb.o w HB.o.kept
 obtain⟨c2,c3⟩:=Gd.o w (yi.refl _ _)
 go_enter func188,ntmps188
 go_wp2_with fail
 refine zv (n:=8) (fun w':World=>w'.cell? ⟨b2,0,none⟩=some (.pointer (some ⟨b,0,none⟩))∧w'.cell? ⟨b3,4,none⟩=some (.slice (some ⟨g,o,none⟩) v.m.length e)∧w'.cell? ⟨g,o+k*6,none⟩=some (.string key)) 8 Wr Wr ?_
 change zX _ _ _ _ _ _ _ _ _ w.drew
 have hSS:(fun w':World=>w'.cell? ⟨b2,0,none⟩=some (.pointer (some ⟨b,0,none⟩))∧w'.cell? ⟨b3,4,none⟩=some (.slice (some ⟨g,o,none⟩) v.m.length e)∧w'.cell? ⟨g,o+k*6,none⟩=some (.string key)) w.drew:=⟨c2,c3,r0⟩
 have Gg:Hid (zb [] w w.drew):=qI Wd.drew
 clear c2 c3 r0 r1 r2 r3 r4 r5
 revert hSS Gg
 generalize w.drew=WD
 intro hSS Gg
 refine zL ?_
 intro O R hO hR
 have hQp:jC R:=by subst hR;exact fun _ _ _ _ _ h=>h
 refine qT 0 ?_ hO rfl rfl Wr hQp (fun w hSw=>?_) hSS ?_
 rotate_left
 ·obtain⟨s0,s1,s2⟩:=hSw;exact zi
 try simp only [zA,zN,zB,zC,zD]
 refine qT 1 ?_ hO rfl rfl Wr hQp (fun w hSw=>?_) hSS ?_
 rotate_left
 ·obtain⟨s0,s1,s2⟩:=hSw;exact zi
 try simp only [zA,zN,zB,zC,zD]
 refine qT 2 ?_ hO rfl rfl Wr hQp (fun w hSw=>?_) hSS ?_
 rotate_left
 ·obtain⟨s0,s1,s2⟩:=hSw;exact zi
 try simp only [zA,zN,zB,zC,zD]
 refine qT 3 ?_ hO rfl rfl Wr hQp (fun w hSw=>?_) hSS ?_
 rotate_left
 ·obtain⟨s0,s1,s2⟩:=hSw;exact zi
 try simp only [zA,zN,zB,zC,zD]
 refine qT 4 ?_ hO rfl rfl Wr hQp (fun w hSw=>?_) hSS ?_
 rotate_left
 ·obtain⟨s0,s1,s2⟩:=hSw;exact zi
 try simp only [zA,zN,zB,zC,zD]
 refine qT 5 ?_ hO rfl rfl Wr hQp (fun w hSw=>?_) hSS ?_
 rotate_left
 ·obtain⟨s0,s1,s2⟩:=hSw;exact zi
 try simp only [zA,zN,zB,zC,zD]
 refine qT 6 ?_ hO rfl rfl Wr hQp (fun w hSw=>?_) hSS ?_
 rotate_left
 ·obtain⟨s0,s1,s2⟩:=hSw;exact zi
 try simp only [zA,zN,zB,zC,zD]
 refine qO 7 hO rfl Wr (fun K hK=>?_)
 go_simp
 refine Calls.mono (KG (HB.o.stay Gg.o) HT.o Ws key Ws hkv) ?_
 rintro e1 w3 ⟨rfl,hb3,hk3⟩
 have Jd:=qI hb3
 have Gi:=qI ((yi.of0 Gg.o).trans hk3)
 clear hb3 hk3
 refine hK _ _ (.inr ⟨(Gd.o w3 Gi.o).1,(Gd.o w3 Gi.o).2,(Gb.o w3 Jd.o.kept).1⟩) ?_
 clear hK K
 try simp only [zA,zN,zB,zC,zD]
 refine zF hO Wr ?_ _
 subst hR
 try clear hQp hO O
 clear hSS
 obtain⟨c2,c3⟩:=Gd.o w3 Gi.o
 go_wp2_with (go_at_call 83;refine (wbyte_58 xC Jd.o (by rw [List.length_append];omega)).mono ?_;rintro e2 w4 ⟨rfl,hb4,hk4⟩;have Gy:=qI hb4;have Gz:=qI (Gi.o.trans hk4);clear hb4 hk4)
 clear c2 c3
 obtain⟨r0,r1,r2,r3,r4,r5⟩:=Gb.o w4 Gy.o.kept
 obtain⟨c2,c3⟩:=Gd.o w4 Gz.o
 refine zv (n:=8) (fun w':World=>w'.cell? ⟨b2,0,none⟩=some (.pointer (some ⟨b,0,none⟩))∧w'.cell? ⟨b3,4,none⟩=some (.slice (some ⟨g,o,none⟩) v.m.length e)∧w'.cell? ⟨g,o+k*6+1,none⟩=some (.int .i64 kd)∧w'.cell? ⟨g,o+k*6+2,none⟩=some (.int .i64 nm)∧w'.cell? ⟨g,o+k*6+3,none⟩=some (.string st)∧w'.cell? ⟨g,o+k*6+4,none⟩=some (.slice p1 i1 d1)∧w'.cell? ⟨g,o+k*6+5,none⟩=some (.slice p2 i2 d2)) 8 Wr Wr ?_
 change zX _ _ _ _ _ _ _ _ _ w4.drew
 have hSS:(fun w':World=>w'.cell? ⟨b2,0,none⟩=some (.pointer (some ⟨b,0,none⟩))∧w'.cell? ⟨b3,4,none⟩=some (.slice (some ⟨g,o,none⟩) v.m.length e)∧w'.cell? ⟨g,o+k*6+1,none⟩=some (.int .i64 kd)∧w'.cell? ⟨g,o+k*6+2,none⟩=some (.int .i64 nm)∧w'.cell? ⟨g,o+k*6+3,none⟩=some (.string st)∧w'.cell? ⟨g,o+k*6+4,none⟩=some (.slice p1 i1 d1)∧w'.cell? ⟨g,o+k*6+5,none⟩=some (.slice p2 i2 d2)) w4.drew:=⟨c2,c3,r1,r2,r3,r4,r5⟩
 have Jf:Hid (zb [] w4 w4.drew):=qI Wd.drew
 clear c2 c3 r0 r1 r2 r3 r4 r5
 revert hSS Jf
 generalize w4.drew=WE
 intro hSS Jf
 refine zL ?_
 intro O R hO hR
 have hQp:jC R:=by subst hR;exact fun _ _ _ _ _ h=>h
 refine qT 0 ?_ hO rfl rfl Wr hQp (fun w hSw=>?_) hSS ?_
 rotate_left
 ·obtain⟨s0,s1,s2,s3,s4,s5,s6⟩:=hSw;exact zi
 try simp only [zA,zN,zB,zC,zD]
 refine qT 1 ?_ hO rfl rfl Wr hQp (fun w hSw=>?_) hSS ?_
 rotate_left
 ·obtain⟨s0,s1,s2,s3,s4,s5,s6⟩:=hSw;exact zi
 try simp only [zA,zN,zB,zC,zD]
 refine qT 2 ?_ hO rfl rfl Wr hQp (fun w hSw=>?_) hSS ?_
 rotate_left
 ·obtain⟨s0,s1,s2,s3,s4,s5,s6⟩:=hSw;exact zi
 try simp only [zA,zN,zB,zC,zD]
 refine qT 3 ?_ hO rfl rfl Wr hQp (fun w hSw=>?_) hSS ?_
 rotate_left
 ·obtain⟨s0,s1,s2,s3,s4,s5,s6⟩:=hSw;exact zi
 try simp only [zA,zN,zB,zC,zD]
 refine qT 4 ?_ hO rfl rfl Wr hQp (fun w hSw=>?_) hSS ?_
 rotate_left
 ·obtain⟨s0,s1,s2,s3,s4,s5,s6⟩:=hSw;exact zi
 try simp only [zA,zN,zB,zC,zD]
 refine qT 5 ?_ hO rfl rfl Wr hQp (fun w hSw=>?_) hSS ?_
 rotate_left
 ·obtain⟨s0,s1,s2,s3,s4,s5,s6⟩:=hSw;exact zi
 try simp only [zA,zN,zB,zC,zD]
 refine qT 6 ?_ hO rfl rfl Wr hQp (fun w hSw=>?_) hSS ?_
 rotate_left
 ·obtain⟨s0,s1,s2,s3,s4,s5,s6⟩:=hSw;exact zi
 try simp only [zA,zN,zB,zC,zD]
 refine qO 7 hO rfl Wr (fun K hK=>?_)
 go_simp
 refine Calls.mono (CL.o _ _ (Gy.o.stay Jf.o) (by simp only [List.length_append,List.length_cons,List.length_nil];omega)) ?_
 rintro e3 w5 ⟨rfl,hb5,hk5⟩
 rw [HA.o] at hb5
 have Jw:=qI hb5
 have Gx:=qI ((Gz.o.trans (yi.of0 Jf.o)).trans hk5)
 clear hb5 hk5
 refine hK _ _ (.inr ⟨(Gd.o w5 Gx.o).1,(Gd.o w5 Gx.o).2,(Gb.o w5 Jw.o.kept).2⟩) ?_
 clear hK K
 try simp only [zA,zN,zB,zC,zD]
 refine zF hO Wr ?_ _
 subst hR
 try clear hQp hO O
 go_wp2_with fail
 go_end0
 exact⟨rfl,Jw.o,Gx.o⟩
end
theorem fb_true:Lib.formatBool true=[116,114,117,101]:=by decide +kernel
theorem fb_false:Lib.formatBool false=[102,97,108,115,101]:=by decide +kernel
theorem between1_list {W w:World}{b b2 b3 n:Nat}{l:List UInt8}{J:World→Prop}{it:Nat→List UInt8}
  (HJ:∀ w1 w2,J w1→yi b w1 w2→J w2)
  (HC:∀ k w1 l1,k<n→J w1→BW 200 W b w1 l1→l1.length+(it k).length≤50000000→Calls Tryz.prog 187 #[.int .i64 k,.pointer (some ⟨b2,0,none⟩),.pointer (some ⟨b3,0,none⟩)] w1 fun r w2=>r = .returned (.tuple #[])∧BW 200 W b w2 (l1++it k)∧yi b w1 w2)
  (hJ:J w) (hb:BW 200 W b w l) (hn:n≤20000) (hl:l.length+(yZ it n).length≤49999998) :
  Calls Tryz.prog 186 #[.pointer (some ⟨b,0,none⟩),.int .u8 91,.int .i64 n,.func (.func 187) #[] #[.pointer (some ⟨b2,0,none⟩),.pointer (some ⟨b3,0,none⟩)],.int .u8 93] w
   fun r w'=>r = .returned (.tuple #[])∧BW 200 W b w' (l++(91::(yZ it n++[93])))∧yi b w w':=between1_any (o:=91) (c:=93) HJ HC hJ hb hn hl
theorem between2_map {W w:World}{b b2 b3 n:Nat}{l:List UInt8}{J:World→Prop}{it:Nat→List UInt8}
  (HJ:∀ w1 w2,J w1→yi b w1 w2→J w2)
  (HC:∀ k w1 l1,k<n→J w1→BW 200 W b w1 l1→l1.length+(it k).length≤50000000→Calls Tryz.prog 188 #[.int .i64 k,.pointer (some ⟨b2,0,none⟩),.pointer (some ⟨b3,0,none⟩)] w1 fun r w2=>r = .returned (.tuple #[])∧BW 200 W b w2 (l1++it k)∧yi b w1 w2)
  (hJ:J w) (hb:BW 200 W b w l) (hn:n≤20000) (hl:l.length+(yZ it n).length≤49999998) :
  Calls Tryz.prog 186 #[.pointer (some ⟨b,0,none⟩),.int .u8 123,.int .i64 n,.func (.func 188) #[] #[.pointer (some ⟨b2,0,none⟩),.pointer (some ⟨b3,0,none⟩)],.int .u8 125] w
   fun r w'=>r = .returned (.tuple #[])∧BW 200 W b w' (l++(123::(yZ it n++[125])))∧yi b w w':=between2_any (o:=123) (c:=125) HJ HC hJ hb hn hl
theorem write_1 {n:Nat}{v:VS (V n)}(h:v.kind=1):zt (n+1) v=[110,117,108,108]:=by
 show (if v.kind=1 then _ else _)=_
 rw [if_pos h]
theorem write_2 {n:Nat}{v:VS (V n)}(h:v.kind=2):zt (n+1) v=Lib.formatBool (v.num == 1):=by
 show (if v.kind=1 then _ else if v.kind=2 then _ else _)=_
 rw [if_neg Ws,if_pos h]
 by_cases e:v.num=1
 ·rw [if_pos e,e,show ((1:Int) == 1)=true from rfl,fb_true]
 ·rw [if_neg e,show (v.num == 1)=false by simpa using e,fb_false]
theorem write_3 {n:Nat}{v:VS (V n)}(h:v.kind=3):zt (n+1) v=Lib.itoa v.num:=by
 show (if v.kind=1 then _ else if v.kind=2 then _ else if v.kind=3 then _ else _)=_
 rw [if_neg Ws,if_neg Ws,if_pos h]
theorem write_4 {n:Nat}{v:VS (V n)}(h:v.kind=4):zt (n+1) v=yG v.s.data.toList:=by
 show (if v.kind=1 then _ else if v.kind=2 then _ else if v.kind=3 then _ else if v.kind=4 then _ else _)=_
 rw [if_neg Ws,if_neg Ws,if_neg Ws,if_pos h]
theorem write_5 {n:Nat}{v:VS (V n)}(h:v.kind=5):zt (n+1) v=91::(yZ (fun k=>(v.l.map (zt n)).getD k []) v.l.length++[93]):=by
 show (if v.kind=1 then _ else if v.kind=2 then _ else if v.kind=3 then _ else if v.kind=4 then _ else if v.kind=5 then _ else _)=_
 rw [if_neg Ws,if_neg Ws,if_neg Ws,if_neg Ws,if_pos h,preC_all]
theorem write_6 {n:Nat}{v:VS (V n)}(h:v.kind=6):zt (n+1) v=123::(yZ (fun k=>(v.m.map (fun p=>yG p.1.data.toList++(58::zt n p.2))).getD k []) v.m.length++[125]):=by
 show (if v.kind=1 then _ else if v.kind=2 then _ else if v.kind=3 then _ else if v.kind=4 then _ else if v.kind=5 then _ else _)=_
 rw [if_neg Ws,if_neg Ws,if_neg Ws,if_neg Ws,if_neg Ws,preC_all]
theorem put_any_step {n:Nat}(known:ZB n):ZB (n+1):=fun (v:VS (V n)) {S W w cs b l} h hS hr hs ht hb hl=>by
  have IH:=qI known
  obtain⟨vl,vm,lcs,mcs,h⟩:=h
  obtain⟨a,c,d,e,rfl,rfl,rfl⟩:=h.forms
  obtain⟨W2,Ga⟩:∃ W2,Hid (W2=(w.alloc (.cells #[.pointer (some ⟨b,0,none⟩)] 198)).alloc (.cells #[.int .i64 v.kind,.int .i64 v.num,.string v.s,.slice a v.l.length c,.slice d v.m.length e] 25)):=⟨_,qI rfl⟩
  have Gc:Hid (zb [] w W2):=qI (kA2 Ga.o)
  have Gl:Hid (bV b w.heap.size (w.heap.size+1) [.int .i64 v.kind,.int .i64 v.num,.string v.s,.slice a v.l.length c,.slice d v.m.length e] W2):=qI (by
   rw [Ga.o]
   exact⟨((zb.refl [] _).alloc _).heap (zd rfl) Wz,zd Wz⟩)
  have H23:Hid (w.heap.size≠b∧w.heap.size+1≠b):=qI (by have:=hb.lt;have:=hb.kept.size;omega)
  have Gt:Hid (BW 200 W b W2 l):=qI (hb.stay Gc.o)
  have HL:=qI hl
  have HS:=qI hs
  have Jx:=qI hS
  have Jy:=qI hr
  have HT:=qI ht
  have H:=qI h
  have HC:=qI (jh (jf hr))
  have hll:l.length≤50000000:=Ws
  have hkv:∀ x:Int,v.kind=x→Hid (bV b w.heap.size (w.heap.size+1) [.int .i64 x,.int .i64 v.num,.string v.s,.slice a v.l.length c,.slice d v.m.length e] W2):=fun x hx=>qI (by rw [← hx];exact Gl.o)
  clear h hS hr hs ht hb hl
  rcases HC.o with ⟨k1,-⟩ | ⟨k1,k2,-⟩ | ⟨k1,k2,-⟩ | ⟨k1,k2,k3,-⟩ | ⟨k1,-⟩ | ⟨k1,-⟩
  ·have HE:=qI (write_1 k1)
   clear Gl HC hkv
   rw [k1] at Ga ⊢
   clear k1
   go_enter func149,ntmps149
   go_wp2_with fail
   rw [← Ga.o]
   refine (jm xC Gt.o Ws ⟨#[110,117,108,108]⟩ Wo).mono ?_
   rintro e1 w2 ⟨rfl,hb2,hk2⟩
   go_wp2_with fail
   go_end0
   exact⟨rfl,by rw [HE.o];exact hb2,(yi.of0 Gc.o).trans hk2⟩
  ·have HE:=qI (write_2 k1)
   have Gm:=hkv 2 k1
   have hnI:0≤v.num∧v.num≤1:=Ws
   clear Gl HC hkv
   rw [k1] at Ga ⊢
   clear k1 k2
   have c2:=za (o:=0) (v:=.pointer (some ⟨b,0,none⟩)) Gm.o.ptr rfl
   have c3:=za (o:=1) (v:=.int .i64 v.num) Gm.o.val rfl
   go_enter func149,ntmps149
   go_wp2_with fail
   rw [← Ga.o]
   generalize v.num=num at *
   refine zv (n:=8) (fun w':World=>w'.cell? ⟨w.heap.size,0,none⟩=some (.pointer (some ⟨b,0,none⟩))∧w'.cell? ⟨w.heap.size+1,1,none⟩=some (.int .i64 num)) 8 Wr Wr ?_
   change zX _ _ _ _ _ _ _ _ _ W2.drew
   have hSS:(fun w':World=>w'.cell? ⟨w.heap.size,0,none⟩=some (.pointer (some ⟨b,0,none⟩))∧w'.cell? ⟨w.heap.size+1,1,none⟩=some (.int .i64 num)) W2.drew:=⟨c2,c3⟩
   have Gg:Hid (zb [] W2 W2.drew):=qI Wd.drew
   clear c2 c3
   revert hSS Gg
   generalize W2.drew=WD
   intro hSS Gg
   refine zL ?_
   intro O R hO hR
   have hQp:jC R:=by subst hR;exact fun _ _ _ _ _ h=>h
   refine qT 0 ?_ hO rfl rfl Wr hQp (fun w hSw=>?_) hSS ?_
   rotate_left
   ·obtain⟨s0,s1⟩:=hSw;exact zi
   try simp only [zA,zN,zB,zC,zD]
   refine qT 1 ?_ hO rfl rfl Wr hQp (fun w hSw=>?_) hSS ?_
   rotate_left
   ·obtain⟨s0,s1⟩:=hSw;exact zi
   try simp only [zA,zN,zB,zC,zD]
   refine qT 2 ?_ hO rfl rfl Wr hQp (fun w hSw=>?_) hSS ?_
   rotate_left
   ·obtain⟨s0,s1⟩:=hSw;exact zi
   try simp only [zA,zN,zB,zC,zD]
   refine qT 3 ?_ hO rfl rfl Wr hQp (fun w hSw=>?_) hSS ?_
   rotate_left
   ·obtain⟨s0,s1⟩:=hSw;exact zi
   try simp only [zA,zN,zB,zC,zD]
   refine qT 4 ?_ hO rfl rfl Wr hQp (fun w hSw=>?_) hSS ?_
   rotate_left
   ·obtain⟨s0,s1⟩:=hSw;exact zi
   try simp only [zA,zN,zB,zC,zD]
   refine qT 5 ?_ hO rfl rfl Wr hQp (fun w hSw=>?_) hSS ?_
   rotate_left
   ·obtain⟨s0,s1⟩:=hSw;exact zi
   try simp only [zA,zN,zB,zC,zD]
   refine qO 6 hO rfl Wr (fun K hK=>?_)
   go_simp
   refine Calls.mono (libFormatBool (num == 1) WD) ?_
   rintro e1 w3 ⟨rfl,rfl⟩
   refine hK _ _ (.inr hSS) ?_
   clear hK K
   try simp only [zA,zN,zB,zC,zD]
   refine qO 7 hO rfl Wr (fun K hK=>?_)
   go_simp
   refine Calls.mono (jm xC (Gt.o.stay Gg.o) Ws (yc (Lib.formatBool (num == 1))) (by rw [xv];cases (num == 1) <;> decide +kernel)) ?_
   rintro e2 w4 ⟨rfl,hb4,hk4⟩
   rw [xZ,← HE.o] at hb4
   have Gy:=qI hb4
   have Gz:=qI (((yi.of0 Gc.o).trans (yi.of0 Gg.o)).trans hk4)
   have hcq:=Gm.o.kept H23.o.1 H23.o.2 ((yi.of0 Gg.o:yi b _ _).trans hk4)
   have hS4:(fun w':World=>w'.cell? ⟨w.heap.size,0,none⟩=some (.pointer (some ⟨b,0,none⟩))∧w'.cell? ⟨w.heap.size+1,1,none⟩=some (.int .i64 num)) w4:=⟨za (o:=0) (v:=.pointer (some ⟨b,0,none⟩)) hcq.ptr rfl,za (o:=1) (v:=.int .i64 num) hcq.val rfl⟩
   clear hb4 hk4 hcq
   refine hK _ _ (.inr hS4) ?_
   clear hK K
   try simp only [zA,zN,zB,zC,zD]
   refine zF hO Wr ?_ _
   subst hR
   try clear hQp hO O
   go_wp2_with fail
   go_end0
   exact⟨rfl,Gy.o,Gz.o⟩
  ·have HE:=qI (write_3 k1)
   have Gm:=hkv 3 k1
   have Jr:Hid ((Lib.itoa v.num).length≤21):=qI (itoa_len v.num k2)
   have Mf:Hid (qC W2):=qI (HT.o.at Gt.o.kept)
   clear Gl HC hkv
   rw [k1] at Ga ⊢
   clear k1
   have c2:=za (o:=0) (v:=.pointer (some ⟨b,0,none⟩)) Gm.o.ptr rfl
   have c3:=za (o:=1) (v:=.int .i64 v.num) Gm.o.val rfl
   go_enter func149,ntmps149
   go_wp2_with fail
   rw [← Ga.o]
   generalize v.num=num at *
   refine zv (n:=7) (fun w':World=>w'.cell? ⟨w.heap.size,0,none⟩=some (.pointer (some ⟨b,0,none⟩))∧w'.cell? ⟨w.heap.size+1,1,none⟩=some (.int .i64 num)) 7 Wr Wr ?_
   change zX _ _ _ _ _ _ _ _ _ W2.drew
   have hSS:(fun w':World=>w'.cell? ⟨w.heap.size,0,none⟩=some (.pointer (some ⟨b,0,none⟩))∧w'.cell? ⟨w.heap.size+1,1,none⟩=some (.int .i64 num)) W2.drew:=⟨c2,c3⟩
   have Gg:Hid (zb [] W2 W2.drew):=qI Wd.drew
   clear c2 c3
   revert hSS Gg
   generalize W2.drew=WD
   intro hSS Gg
   refine zL ?_
   intro O R hO hR
   have hQp:jC R:=by subst hR;exact fun _ _ _ _ _ h=>h
   refine qT 0 ?_ hO rfl rfl Wr hQp (fun w hSw=>?_) hSS ?_
   rotate_left
   ·obtain⟨s0,s1⟩:=hSw;exact zi
   try simp only [zA,zN,zB,zC,zD]
   refine qT 1 ?_ hO rfl rfl Wr hQp (fun w hSw=>?_) hSS ?_
   rotate_left
   ·obtain⟨s0,s1⟩:=hSw;exact zi
   try simp only [zA,zN,zB,zC,zD]
   refine qT 2 ?_ hO rfl rfl Wr hQp (fun w hSw=>?_) hSS ?_
   rotate_left
   ·obtain⟨s0,s1⟩:=hSw;exact zi
   try simp only [zA,zN,zB,zC,zD]
   refine qT 3 ?_ hO rfl rfl Wr hQp (fun w hSw=>?_) hSS ?_
   rotate_left
   ·obtain⟨s0,s1⟩:=hSw;exact zi
   try simp only [zA,zN,zB,zC,zD]
   refine qT 4 ?_ hO rfl rfl Wr hQp (fun w hSw=>?_) hSS ?_
   rotate_left
   ·obtain⟨s0,s1⟩:=hSw;exact zi
   try simp only [zA,zN,zB,zC,zD]
   refine qO 5 hO rfl Wr (fun K hK=>?_)
   go_simp
   refine Calls.mono (libItoa (Mf.o.kept0 Gg.o) num Ws Ws) ?_
   rintro e1 w3 ⟨rfl,hk3⟩
   have Gi:=qI (Gg.o.then hk3)
   have hS3:(fun w':World=>w'.cell? ⟨w.heap.size,0,none⟩=some (.pointer (some ⟨b,0,none⟩))∧w'.cell? ⟨w.heap.size+1,1,none⟩=some (.int .i64 num)) w3:=⟨hk3.cell hSS.1 Wz,hk3.cell hSS.2 Wz⟩
   clear hk3
   refine hK _ _ (.inr hS3) ?_
   clear hK K
   try simp only [zA,zN,zB,zC,zD]
   clear hSS
   have hSS:=hS3
   clear hS3
   refine qO 6 hO rfl Wr (fun K hK=>?_)
   go_simp
   refine Calls.mono (jm xC (Gt.o.stay Gi.o) Ws (yc (Lib.itoa num)) (by rw [xv];have:=Jr.o;omega)) ?_
   rintro e2 w4 ⟨rfl,hb4,hk4⟩
   rw [xZ,← HE.o] at hb4
   have Gy:=qI hb4
   have Gz:=qI (((yi.of0 Gc.o).trans (yi.of0 Gi.o)).trans hk4)
   have hcq:=Gm.o.kept H23.o.1 H23.o.2 ((yi.of0 Gi.o:yi b _ _).trans hk4)
   have hS4:(fun w':World=>w'.cell? ⟨w.heap.size,0,none⟩=some (.pointer (some ⟨b,0,none⟩))∧w'.cell? ⟨w.heap.size+1,1,none⟩=some (.int .i64 num)) w4:=⟨za (o:=0) (v:=.pointer (some ⟨b,0,none⟩)) hcq.ptr rfl,za (o:=1) (v:=.int .i64 num) hcq.val rfl⟩
   clear hb4 hk4 hcq
   refine hK _ _ (.inr hS4) ?_
   clear hK K
   try simp only [zA,zN,zB,zC,zD]
   refine zF hO Wr ?_ _
   subst hR
   try clear hQp hO O
   go_wp2_with fail
   go_end0
   exact⟨rfl,Gy.o,Gz.o⟩
  ·have HE:=qI (write_4 k1)
   have hsz:v.s.size≤400000:=by
    have h1:=HS.o.2
    have h2:v.s.size≤yl (n+1) v:=by
     show _≤v.s.size+v.keyBytes+_
     omega
    omega
   clear Gl HC hkv
   rw [k1] at Ga ⊢
   clear k1 k2
   go_enter func149,ntmps149
   go_wp2_with fail
   rw [← Ga.o]
   refine (KG Gt.o HT.o Ws v.s Ws k3).mono ?_
   rintro e1 w2 ⟨rfl,hb2,hk2⟩
   go_wp2_with fail
   go_end0
   exact⟨rfl,by rw [HE.o];exact hb2,(yi.of0 Gc.o).trans hk2⟩
  ·have HE:=qI (write_5 k1)
   have Gm:=hkv 5 k1
   have CB:=qI (between1_list (n:=v.l.length) (b2:=w.heap.size) (b3:=w.heap.size+1) (it:=fun k=>(v.l.map (zt n)).getD k []) (J:=bV b w.heap.size (w.heap.size+1) [.int .i64 v.kind,.int .i64 v.num,.string v.s,.slice a v.l.length c,.slice d v.m.length e])
    (fun _ _ h k=>h.kept H23.o.1 H23.o.2 k) (fun k w1 l1 hk hc hb1 hl1=>by
     have e1:(v.l.map (zt n)).getD k []=zt n v.l[k]:=by simp [hk]
     have hle:(zt n v.l[k]).length+1≤(zt (n+1) v).length:=by
      rw [HE.o]
      have h1:=bh (fun k=>(v.l.map (zt n)).getD k []) k
      have h2:=jB (fun k=>(v.l.map (zt n)).getD k []) (show k+1≤v.l.length from hk)
      simp only [e1] at h1
      simp only [List.length_cons,List.length_append]
      omega
     simp only [e1] at hl1 ⊢
     exact put1_any IH.o H.o Jx.o Jy.o HS.o HT.o H23.o hc hb1 hk hl1) Gl.o Gt.o (by have:=HS.o.few;omega) (by
     have:=HL.o
     rw [HE.o] at this
     simp only [List.length_cons,List.length_append] at this
     omega))
   clear Gl HC hkv
   rw [k1] at Ga ⊢
   clear k1
   go_enter func149,ntmps149
   go_wp2_with fail
   rw [← Ga.o]
   refine CB.o.mono ?_
   rintro e1 w2 ⟨rfl,hb2,hk2⟩
   go_wp2_with fail
   go_end0
   exact⟨rfl,by rw [HE.o];exact hb2,(yi.of0 Gc.o).trans hk2⟩
  ·have HE:=qI (write_6 k1)
   have Gm:=hkv 6 k1
   have CB:=qI (between2_map (n:=v.m.length) (b2:=w.heap.size) (b3:=w.heap.size+1) (it:=fun k=>(v.m.map (fun p=>yG p.1.data.toList++(58::zt n p.2))).getD k []) (J:=bV b w.heap.size (w.heap.size+1) [.int .i64 v.kind,.int .i64 v.num,.string v.s,.slice a v.l.length c,.slice d v.m.length e])
    (fun _ _ h k=>h.kept H23.o.1 H23.o.2 k) (fun k w1 l1 hk hc hb1 hl1=>by
     have e1:(v.m.map (fun p=>yG p.1.data.toList++(58::zt n p.2))).getD k []=yG v.m[k].1.data.toList++(58::zt n v.m[k].2):=by simp [hk]
     simp only [e1] at hl1 ⊢
     exact put2_any IH.o H.o Jx.o Jy.o HS.o HT.o k1 H23.o hc hb1 hk hl1) Gl.o Gt.o (by have:=HS.o.few;omega) (by
     have:=HL.o
     rw [HE.o] at this
     simp only [List.length_cons,List.length_append] at this
     omega))
   clear Gl HC hkv
   rw [k1] at Ga ⊢
   clear k1
   go_enter func149,ntmps149
   go_wp2_with fail
   rw [← Ga.o]
   refine CB.o.mono ?_
   rintro e1 w2 ⟨rfl,hb2,hk2⟩
   go_wp2_with fail
   go_end0
   exact⟨rfl,by rw [HE.o];exact hb2,(yi.of0 Gc.o).trans hk2⟩
theorem put_any:∀ (n:Nat),ZB n
 | 0=>fun v=>nomatch v
 | n+1=>put_any_step (put_any n)
end Go.Proofs.YtibnfbglanpoiaaGreatDoor

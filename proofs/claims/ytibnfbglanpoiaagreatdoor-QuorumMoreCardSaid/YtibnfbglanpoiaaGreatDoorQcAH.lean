/- Parts of one proof, merged: XGF XGO XJN XGP. -/
import Derived.Test.YtibnfbglanpoiaaGreatDoorQcAG
import Derived.Test.YtibnfbglanpoiaaGreatDoorQcP
import Derived.Test.YtibnfbglanpoiaaGreatDoorQcAA
import Derived.Test.YtibnfbglanpoiaaGreatDoorQcU
set_option linter.all false
set_option maxHeartbeats 12800000
set_option maxRecDepth 10000
set_option linter.unusedVariables false
set_option linter.unusedSimpArgs false
set_option linter.unnecessarySimpa false
namespace Go.Proofs.YtibnfbglanpoiaaGreatDoor
open Go.Proofs.Tryz
open Go.RowKit
theorem K4 (n:Int) (w:World):Calls Tryz.prog 92 #[.int .i64 n] w fun e w'=>e = .returned (.agg #[.int .i64 3,.int .i64 n,.string ⟨#[]⟩,.slice none 0 0,.slice none 0 0])∧zb [] w w':=by
 go_enter func92,ntmps92
 go_wp2_with fail
 exact bodyPost_ret (v:=.agg #[.int .i64 3,.int .i64 n,.string ⟨#[]⟩,.slice none 0 0,.slice none 0 0]) (by simp [results,results92,go_sem]) rfl ⟨rfl,(zb.refl _ _).alloc _⟩
theorem bE (s:ByteArray) (w:World):Calls Tryz.prog 93 #[.string s] w fun e w'=>e = .returned (.agg #[.int .i64 4,.int .i64 0,.string s,.slice none 0 0,.slice none 0 0])∧zb [] w w':=by
 go_enter func93,ntmps93
 go_wp2_with fail
 exact bodyPost_ret (v:=.agg #[.int .i64 4,.int .i64 0,.string s,.slice none 0 0,.slice none 0 0]) (by simp [results,results93,go_sem]) rfl ⟨rfl,(zb.refl _ _).alloc _⟩
def NewR (n:Nat) (S:Nat→Prop) (w':World) (e:Ending) (v:V n):Prop:=∃ cs:List Value,e = .returned (.agg cs.toArray)∧Rep n S w' cs v
theorem zip_take {α β:Type}:∀ (l:List α) (m:List β) (k:Nat) (h1:k < l.length) (h2:k < m.length),(l.zip m).take (k + 1)=(l.zip m).take k ++ [(l[k],m[k])]
 | [],_,_,h,_=>by simp at h
 | _ :: _,[],_,_,h=>by simp at h
 | a :: l,b :: m,0,_,_=>rfl
 | a :: l,b :: m,k + 1,h1,h2=>by
  have:=zip_take l m k (by simpa using h1) (by simpa using h2)
  simp only [List.zip_cons_cons,List.take_succ_cons,this,List.getElem_cons_succ,List.cons_append]
theorem pairCs_snoc (l:List (ByteArray × List Value)) (p:ByteArray × List Value):zX (l ++ [p])=zX l ++ yJ p:=by simp [zX]
theorem zip_all2 {α β γ:Type}{R:α→β→Prop}{ks:List γ}{xs:List α}{ys:List β}(h:zI R xs ys):zI (fun (p:γ × α) (q:γ × β)=>p.1=q.1∧R p.2 q.2) (ks.zip xs) (ks.zip ys):=by
 refine⟨by simp [h.1],?_⟩
 intro j x y hx hy
 rw [List.getElem?_zip_eq_some] at hx hy
 rw [hx.1] at hy
 exact⟨Option.some.inj hy.1,h.2 j _ _ hx.2 hy.2⟩
theorem items_at {n:Nat}{S:Nat→Prop}{w:World}{b:Option Addr}{N d:Nat}{lcs:List (List Value)}{vs:List (V n)}(hl:Slc w 5 (.slice b N d) N lcs.flatten) (ha:zI (Rep n S w) lcs vs) (hN:vs.length=N) {k:Nat}(hk:k < N) :
  ∃ g o kd nm s p i c q j e,b=some ⟨g,o,none⟩∧w.cell? ⟨g,o + k * 5,none⟩=some (.int .i64 kd)∧w.cell? ⟨g,o + k * 5 + 1,none⟩=some (.int .i64 nm)∧w.cell? ⟨g,o + k * 5 + 2,none⟩=some (.string s) ∧
   w.cell? ⟨g,o + k * 5 + 3,none⟩=some (.slice p i c)∧w.cell? ⟨g,o + k * 5 + 4,none⟩=some (.slice q j e)∧lcs[k]? = some [.int .i64 kd,.int .i64 nm,.string s,.slice p i c,.slice q j e]:=by
 have hk':k < lcs.length:=by rw [ha.1];omega
 have hr:=ha.2 k _ _ (List.getElem?_eq_getElem hk') (List.getElem?_eq_getElem (by omega))
 obtain⟨kd,nm,s,p,i,c,q,j,e,he⟩:=hr.conv
 have hfive:∀ c,c ∈ lcs→c.length=5:=by
  intro c hc
  obtain⟨i,hi,rfl⟩:=List.getElem_of_mem hc
  exact (ha.2 i _ _ (List.getElem?_eq_getElem hi) (List.getElem?_eq_getElem (by have:=ha.1;omega))).len
 rcases hl.2 with ⟨_,h0⟩ | ⟨h0,_⟩ | ⟨g,o,cap,hsv,_,_,hrow⟩
 ·omega
 ·omega
 simp only [Value.slice.injEq] at hsv
 have hc:∀ i,i < 5→lcs.flatten[k * 5 + i]? = lcs[k][i]?:=fun i hi=>ku lcs k i hfive hk' hi
 rw [he] at hc
 refine⟨g,o,kd,nm,s,p,i,c,q,j,e,hsv.1,hrow.cells (k * 5 + 0) _ (hc 0 (by decide)),?_,?_,?_,?_,by rw [List.getElem?_eq_getElem hk',he]⟩
 all_goals rw [Nat.add_assoc]
 ·exact hrow.cells (k * 5 + 1) _ (hc 1 (by decide))
 ·exact hrow.cells (k * 5 + 2) _ (hc 2 (by decide))
 ·exact hrow.cells (k * 5 + 3) _ (hc 3 (by decide))
 ·exact hrow.cells (k * 5 + 4) _ (hc 4 (by decide))
theorem QN {n:Nat}{S:Nat→Prop}{w:World}{a b:Option Addr}{c d N:Nat}{ks:List ByteArray}{lcs:List (List Value)}{vs:List (V n)}(hk:xg w (.slice a ks.length c) ks) (hl:Slc w 5 (.slice b N d) N lcs.flatten) (ha:zI (Rep n S w) lcs vs) (hN:vs.length=N) (hM:ks.length=N) (hlt:N≤100) :
  Calls Tryz.prog 91 #[.slice a N c,.slice b N d] w fun e w'=>NewR (n + 1) (fun g=>S g∨w.heap.size≤g) w' e (Ze (ks.zip vs):VS (V n))∧zb [] w w':=by
 obtain⟨W0,Gb⟩:∃ W0,Hid (W0=(w.alloc (.cells #[.int .i64 0,.int .i64 0,.string ⟨#[]⟩,.slice none 0 0,.slice none 0 0] 25)).alloc (.cells #[.int .i64 6,.int .i64 0,.string ⟨#[]⟩,.slice none 0 0,.slice none 0 0] 25)):=⟨_,qI rfl⟩
 have Ge:Hid (zb [] w W0):=qI (by rw [Gb.o];exact ((zb.refl _ w).alloc _).alloc _)
 have Gr:Hid (W0.heap[w.heap.size]? = some (.cells #[.int .i64 0,.int .i64 0,.string ⟨#[]⟩,.slice none 0 0,.slice none 0 0] 25 (0,0))):=qI (by rw [Gb.o];exact ((zb.refl [] _).alloc _).heap (zd rfl) (by simp))
 have Jk:Hid (W0.heap[w.heap.size + 1]? = some (.cells #[.int .i64 6,.int .i64 0,.string ⟨#[]⟩,.slice none 0 0,.slice none 0 0] 25 (0,0))):=qI (by rw [Gb.o];exact zd (by simp))
 have Gm:Hid (W0.heap.size=w.heap.size + 2):=qI (by rw [Gb.o];simp)
 have HA:=qI (ha.mono (fun _ _ _ r=>r.kept0 Ge.o))
 have Jc:=qI ha
 have Jl:=qI hl
 have Jm:Hid (xg w (.slice a N c) ks):=qI (by rw [← hM];exact hk)
 have HN:=qI hN
 have HM:=qI hM
 have hNI:(N:Int)≤100:=by omega
 have Jn:Hid ((ks.zip lcs).length=N):=qI (by have:=ha.1;simp;omega)
 clear hk hl ha hN hM hlt
 go_enter func91,ntmps91
 go_upto_region 2 with fail
 rw [← Gb.o]
 go_wp2_with fail
 go_loopw [6] (fun i wr=>∃ (k cm:Nat) (am:Option Addr),i = .int .i64 k∧k≤N∧wr.heap[w.heap.size + 1]? = some (.cells #[.int .i64 6,.int .i64 0,.string ⟨#[]⟩,.slice none 0 0,.slice am k cm] 25 (0,0))∧wr.ownsRow W0.heap.size 132 6 (.slice am k cm) k (zX ((ks.zip lcs).take k))∧zb [w.heap.size + 1] W0 wr) (fun i _=>N - (intOf i).toNat)
 case atStart=>exact⟨0,0,none,rfl,Nat.zero_le _,Jk.o,World.ownsRow_nil _ _ _ _,zb.refl _ _⟩
 case round=>
  obtain⟨k,cm,am,rfl,hk,hb,hrow,hkr⟩:=hrel
  have HB:=qI hb
  have Gc:=qI hrow
  have Gk:=qI hkr
  have Gp:Hid (zb [] w wr):=qI (Ge.o.trans hkr (by intro i hi;simp at hi;subst hi;exact .inr (by omega)))
  clear hb hrow hkr
  by_cases hlt:k < N
  ·have hltI:(k:Int) < N:=by omega
   have Jd:Hid ((k:Int) < N):=qI hltI
   have hka:k < ks.length:=by rw [HM.o];exact hlt
   have hkl:k < lcs.length:=by have:=HA.o.1;have:=HN.o;omega
   obtain⟨ga,oa,ea,q0⟩:=xg.at (w:=wr) (l:=ks) (c:=c) (a:=a) (by rw [HM.o];exact Jm.o.kept0 Gp.o) hka
   obtain⟨gb,ob,kd,nm,st,p1,i1,d1,p2,i2,d2,eb,s0,s1,s2,s3,s4,hcs⟩:=items_at (w:=wr) (Jl.o.kept0 Gp.o) (Jc.o.mono (fun _ _ _ r=>r.kept0 Gp.o)) HN.o hlt
   subst ea eb
   have HZ:Hid ((ks.zip lcs).take (k + 1)=(ks.zip lcs).take k ++ [(ks[k],lcs[k])]):=qI (zip_take _ _ _ hka hkl)
   have f4:=za (o:=4) (v:=.slice am k cm) HB.o rfl
   rw [List.getElem?_eq_getElem hkl,Option.some.injEq] at hcs
   rw [hcs] at HZ
   clear hcs hkl
   revert q0 HZ
   generalize ks[k]=key
   intro q0 HZ
   clear hka
   have Gf:=qI hlt
   clear hlt
   go_upto_region 5 with fail
   refine zZ (n:=29) 12 [zg.is (.pointer (some ⟨w.heap.size + 1,4,none⟩)),
    zg.is (.slice am k cm),
    zg.is (.slice (some ⟨ga,oa,none⟩) N c),
    zg.is (.int .i64 k),
    zg.is (.pointer (some ⟨ga,oa + k,none⟩)),
    zg.is (.string key),
    zg.is (.slice (some ⟨gb,ob,none⟩) N d),
    zg.is (.int .i64 k),
    zg.is (.pointer (some ⟨gb,ob + k * 5,none⟩)),
    zg.is (.agg #[.int .i64 kd,.int .i64 nm,.string st,.slice p1 i1 d1,.slice p2 i2 d2]),
    zg.is (.agg #[.string key,.int .i64 kd,.int .i64 nm,.string st,.slice p1 i1 d1,.slice p2 i2 d2]),
    yU [.string key,.int .i64 kd,.int .i64 nm,.string st,.slice p1 i1 d1,.slice p2 i2 d2] 1 6] (by kernel_rfl) rfl (by kernel_rfl) (fun x=>by simp only [List.map,yM,Act.put,List.setIfInBounds_toArray,List.set_cons_zero,List.set_cons_succ];rfl) ?_ ?_
   ·refine⟨fun x w2 hkw b hd=>?_,fun x w2 hkw b hd=>?_,fun x w2 hkw b hd=>?_,fun x w2 hkw b hd=>?_,fun x w2 hkw b hd=>?_,fun x w2 hkw b hd=>?_,fun x w2 hkw b hd=>?_,fun x w2 hkw b hd=>?_,fun x w2 hkw b hd=>?_,fun x w2 hkw b hd=>?_,fun x w2 hkw b hd=>?_,fun x w2 hkw b hd=>?_,trivial⟩
    ·go_wp2_with fail
     exact⟨rfl,zb.refl _ _⟩
    ·have d0:x 0=_:=hd 0 (by kernel_rfl)
     have y0:=hkw.cell f4 (by simp)
     go_wp2_with fail
     exact⟨rfl,zb.refl _ _⟩
    ·go_wp2_with fail
     exact⟨rfl,zb.refl _ _⟩
    ·go_wp2_with fail
     exact⟨rfl,zb.refl _ _⟩
    ·have d2:x 2=_:=hd 2 (by kernel_rfl)
     have d3:x 3=_:=hd 3 (by kernel_rfl)
     have hkN:=Jd.o
     go_wp2_with fail
     exact⟨rfl,zb.refl _ _⟩
    ·have d4:x 4=_:=hd 4 (by kernel_rfl)
     have y0:=hkw.cell q0 (by simp)
     go_wp2_with fail
     exact⟨rfl,zb.refl _ _⟩
    ·go_wp2_with fail
     exact⟨rfl,zb.refl _ _⟩
    ·go_wp2_with fail
     exact⟨rfl,zb.refl _ _⟩
    ·have d6:x 6=_:=hd 6 (by kernel_rfl)
     have d7:x 7=_:=hd 7 (by kernel_rfl)
     have hkN:=Jd.o
     go_wp2_with fail
     exact⟨rfl,zb.refl _ _⟩
    ·have d8:x 8=_:=hd 8 (by kernel_rfl)
     have y0:=hkw.cell s0 (by simp)
     have y1:=hkw.cell s1 (by simp)
     have y2:=hkw.cell s2 (by simp)
     have y3:=hkw.cell s3 (by simp)
     have y4:=hkw.cell s4 (by simp)
     go_wp2_with fail
     exact⟨rfl,zb.refl _ _⟩
    ·have d5:x 5=_:=hd 5 (by kernel_rfl)
     have d9:x 9=_:=hd 9 (by kernel_rfl)
     go_wp2_with fail
     exact⟨rfl,zb.refl _ _⟩
    ·have d10:x 10=_:=hd 10 (by kernel_rfl)
     go_wp2_with fail
     exact⟨⟨w2.heap.size,rfl,Nat.le_refl _,by simp,zV w2 [.string key,.int .i64 kd,.int .i64 nm,.string st,.slice p1 i1 d1,.slice p2 i2 d2] 6 1 _ _ rfl rfl (by decide)⟩,(zb.refl _ _).alloc _⟩
   ·intro x w7 hkw b7 hd hwin
    have d9:x 1=_:=hd 1 (by decide)
    obtain⟨g9,d11,-,-,hsl⟩:=hd 11 (by decide)
    have Gu:=qI hsl
    have Gg:=qI hkw
    have Jo:=qI (hkw.heap HB.o (by simp))
    have Gh:=qI Gc.o.lt
    have Jp:Hid (w.heap.size + 1 ∉ (Value.slice am k cm).ownBlock.toList):=qI (fun hx=>by have h1:=(Gh.o _ (Option.mem_toList.1 hx)).1;have h3:=Gm.o;omega)
    clear hd hwin hkw hsl
    change wpList _ _ _ [_,_,_] _ _
    go_wp2_with (at_builtin;refine zj jh (v:=.slice am k cm) (n:=k) (zk Gc.o Gg.o (by simp)) Gu.o (by simp [Value.oneCell']) (by simp only [maxLen];have:=Gf.o;omega) (by have:=Gf.o;omega) (by have:=Gk.o.size;have:=Gg.o.size;omega) rfl _ _ rfl d9 d11 ?_;intro v5 w8 hown hk5 _ hb5;obtain⟨a5,c5,rfl,-,-⟩:=(Slc.of_row hown).form;have Gi:=qI hown;have Ga:=qI hk5;have Gl:=qI (hk5.heap Jo.o Jp.o);have u0:=za (o:=4) (v:=.slice am k cm) Gl.o rfl;have uf:=zh (o:=4) Gl.o;clear hown hk5 hb5)
    case roundEnd=>
     have hst:zb [w.heap.size + 1] w8 (w8.setCell ⟨w.heap.size + 1,4,none⟩ (.slice a5 (k + 1) c5)):=(zb.refl _ _).setCell (.inl (by simp)) _
     have hX5:∀ i,i ∈ (Value.slice am k cm).ownBlock.toList→W0.heap.size≤i:=fun i hi=>(Gh.o i (Option.mem_toList.1 hi)).1
     refine⟨⟨k + 1,c5,a5,by go_num,by have:=Gf.o;omega,ze Gl.o rfl,?_,((Gk.o.then Gg.o).trans Ga.o (fun i hi=>.inr (hX5 i hi))).trans hst (fun i hi=>.inl hi)⟩,by have:=Gf.o;simp [intOf];omega⟩
     rw [HZ.o,pairCs_snoc]
     exact zk Gi.o hst (fun g hg=>by have:=(Gi.o.lt g hg).1;have:=Gm.o;simp;omega)
  ·obtain rfl:k=N:=by omega
   have hge:¬ k < k:=by omega
   have Gv:=qI (Gk.o.heap Gr.o (by simp))
   obtain⟨b0,b1,b2,b3,b4⟩:=k7 HB.o
   obtain⟨r0,r1,r2,r3,r4⟩:=k7 Gv.o
   have z:∀ j,wr.frozen? ⟨w.heap.size,j,none⟩=false:=fun j=>zh Gv.o
   go_wp2_with fail
   change bodyPost _ _ _ _ _ (vG wr w.heap.size 6 0 ⟨#[]⟩ (.slice none 0 0) (.slice am k cm))
   have Gd:=kN wr w.heap.size 6 0 ⟨#[]⟩ (.slice none 0 0) (.slice am k cm)
   obtain⟨y0,y1,y2,y3,y4⟩:=k7 (jU Gv.o 6 0 ⟨#[]⟩ (.slice none 0 0) (.slice am k cm))
   revert Gd y0 y1 y2 y3 y4
   generalize vG wr w.heap.size 6 0 ⟨#[]⟩ (.slice none 0 0) (.slice am k cm)=WF
   intro Gd y0 y1 y2 y3 y4
   refine bodyPost_ret (v:=.agg #[.int .i64 6,.int .i64 0,.string ⟨#[]⟩,.slice none 0 0,.slice am k cm]) (by simp [results,results91,go_sem,y0,y1,y2,y3,y4]) rfl ?_
   have Gs:zb [] w WF:=Gp.o.trans Gd (by intro i hi;simp at hi;subst hi;exact .inr (Nat.le_refl _))
   have hrow:=Gc.o
   rw [List.take_of_length_le (by have:=Jn.o;omega)] at hrow
   have hsl:=(Slc.of_row hrow).kept Gd (fun g hg=>by have:=(hrow.lt g (ye hg)).1;have:=Gm.o;simp;omega)
   have hzl:(Ze (ks.zip vs):VS (V n)).m.length=k:=by show (ks.zip vs).length=k;have:=HN.o;have:=HM.o;simp;omega
   refine⟨⟨[.int .i64 6,.int .i64 0,.string ⟨#[]⟩,.slice none 0 0,.slice am k cm],rfl,.slice none 0 0,.slice am k cm,[],ks.zip lcs,{
    cells:=rfl
    slcl:=xn _ _
    alll:=zI.nil _
    slcm:=by rw [hzl];exact hsl
    allm:=zip_all2 ((Jc.o.mono (fun _ _ _ r=>r.kept0 Gs)).mono (fun _ _ _ r=>r.mono (fun _ _ h=>.inl h)))
    inl:=by simp [yq]
    inm:=fun g hg=>.inr (by have:=(hrow.lt g (ye hg)).1;have:=Gm.o;omega)
    wfk:=Qy (i:=6) (by decide) (by decide)
    wfn:=Qy (i:=0) (by decide) (by decide) }⟩,Gs⟩
def repFact (S:Nat→Prop) (n:Nat) (v:V n):zg (zb []):=⟨fun u _ w=>∃ k m s p i c q j d,u = .agg #[.int .i64 k,.int .i64 m,.string s,.slice p i c,.slice q j d]∧Rep n S w [.int .i64 k,.int .i64 m,.string s,.slice p i c,.slice q j d] v,
 fun _ _ _ _ ⟨k,m,s,p,i,c,q,j,d,h1,h2⟩ kk=>⟨k,m,s,p,i,c,q,j,d,h1,h2.kept0 kk⟩⟩
theorem Kq {P:Program}{t:TypeId}(ht:P.underlying t=some .string) (s:ByteArray) (m:Nat) (h:m < s.data.toList.length) (W:World):(Instr.index t (.string s) (.int .u8 m)).run P W = .ok (.int .u8 s.data.toList[m].toNat) W:=by
 rw [run_index_string _ t s .u8 m ht,dif_pos ⟨by omega,by simp only [Array.length_toList] at h;have:s.data.size=s.size:=rfl;omega⟩]
 rfl
theorem JT (m:Nat) (h:m < 16):∃ h2:m < (⟨#[48,49,50,51,52,53,54,55,56,57,97,98,99,100,101,102]⟩:ByteArray).data.toList.length,(⟨#[48,49,50,51,52,53,54,55,56,57,97,98,99,100,101,102]⟩:ByteArray).data.toList[m]=qg m:=by
 refine⟨h,?_⟩
 have:∀ q:Fin 16,(⟨#[48,49,50,51,52,53,54,55,56,57,97,98,99,100,101,102]⟩:ByteArray).data.toList[q.val]'q.isLt=qg q.val:=by decide
 exact this ⟨m,h⟩
theorem YF {w:World}{a:Option Addr}{c:Nat}{l:List UInt8}(hb:zp w (.slice a l.length c) l) (hl:l.length≤1000000) :
  Calls Tryz.prog 51 #[.slice a l.length c] w fun e w'=>e = .returned (.string (xU l))∧zb [] w w':=by
 obtain⟨N,HN⟩:∃ N,Hid (N=l.length):=⟨_,qI rfl⟩
 have HB:=qI hb
 have Gw:=qI hl
 have hnI:(N:Int)≤1000000:=by have:=HN.o;omega
 rw [← HN.o] at Gw ⊢
 clear hb hl
 go_enter func51,ntmps51
 go_wp2_with fail
 go_loopw [3,4] (fun out i wr=>∃ (k m:Nat) (a3:Option Addr) (c3:Nat),i = .int .i64 k∧k≤N∧Hid (m=2 * k)∧out = .slice a3 m c3∧wr.ownsRow w.heap.size 5 1 (.slice a3 m c3) m ((kq (l.take k)).map bv)∧zb [] w wr) (fun _ i _=>N - (intOf i).toNat)
 case atStart=>exact⟨0,0,none,0,rfl,Nat.zero_le _,qI rfl,rfl,World.ownsRow_nil _ _ _ _,zb.refl _ _⟩
 case round=>
  obtain⟨k,m,a3,c3,rfl,hk,HM,rfl,hrow,hkr⟩:=hrel
  have Gc:=qI hrow
  have Gk:=qI hkr
  clear hrow hkr
  by_cases hlt:k < N
  ·have hltI:(k:Int) < N:=by omega
   have Je:Hid ((k:Int) < N):=qI hltI
   have hka:k < l.length:=by rw [← HN.o];exact hlt
   obtain⟨g,o,rfl,q0⟩:=zp.at (w:=wr) (l:=l) (c:=c) (a:=a) (Slc.kept0 HB.o Gk.o) hka
   have HZ:Hid (kq (l.take (k + 1))=kq (l.take k) ++ [qg (l[k].toNat / 16),qg (l[k].toNat % 16)]):=qI (by rw [List.take_succ_eq_append_getElem hka,J6,List.append_assoc];rfl)
   have Gl:Hid (l[k].toNat < 256):=qI l[k].toNat_lt
   revert q0 HZ Gl
   generalize l[k].toNat=b
   intro q0 HZ Gl
   clear hka
   obtain⟨h1,e1⟩:=JT (b / 16) (by have:=Gl.o;omega)
   obtain⟨h2,e2⟩:=JT (b % 16) (by omega)
   have i1:=Kq underlying9 _ _ h1
   have i2:=Kq underlying9 _ _ h2
   rw [e1] at i1
   rw [e2] at i2
   obtain⟨y,Gt⟩:∃ y:Int,Hid (y=(b:Int)):=⟨_,qI rfl⟩
   obtain⟨hi,HH⟩:∃ hi:Int,Hid (hi=((b / 16:Nat):Int)):=⟨_,qI rfl⟩
   obtain⟨lo,HL⟩:∃ lo:Int,Hid (lo=((b % 16:Nat):Int)):=⟨_,qI rfl⟩
   obtain⟨xh,Jf⟩:∃ xh:Int,Hid (xh=(qg (b / 16)).toNat):=⟨_,qI rfl⟩
   obtain⟨xl,Jg⟩:∃ xl:Int,Hid (xl=(qg (b % 16)).toNat):=⟨_,qI rfl⟩
   rw [← HH.o,← Jf.o] at i1
   rw [← HL.o,← Jg.o] at i2
   rw [← Gt.o] at q0
   have IH:=qI i1
   have IL:=qI i2
   have HQ:=qI q0
   have HY:Hid (0≤y∧y < 256):=qI (by have:=Gt.o;have:=Gl.o;omega)
   have Jq:Hid (y / 16=hi):=qI (by have:=Gt.o;have:=HH.o;omega)
   have Jr:Hid (y % 16=lo):=qI (by have:=Gt.o;have:=HL.o;omega)
   have Js:Hid ([Value.int .u8 xh,.int .u8 xl]=[qg (b / 16),qg (b % 16)].map bv):=qI (by rw [Jf.o,Jg.o];rfl)
   have Gf:=qI hlt
   clear i1 i2 q0 h1 h2 e1 e2 hlt
   go_upto_region 5 with fail
   refine vb (n:=28) 14 [zg.is (.slice a3 m c3),
    zg.is (.slice (some ⟨g,o,none⟩) N c),
    zg.is (.int .i64 k),
    zg.is (.pointer (some ⟨g,o + k,none⟩)),
    zg.is (.int .u8 y),
    zg.is (.int .u8 hi),
    zg.is (.int .u8 xh),
    zg.is (.slice (some ⟨g,o,none⟩) N c),
    zg.is (.int .i64 k),
    zg.is (.pointer (some ⟨g,o + k,none⟩)),
    zg.is (.int .u8 y),
    zg.is (.int .u8 lo),
    zg.is (.int .u8 xl),
    yU [.int .u8 xh,.int .u8 xl] 2 1] (by kernel_rfl) rfl (by kernel_rfl) (fun x=>by simp only [List.map,yM,Act.put,List.setIfInBounds_toArray,List.set_cons_zero,List.set_cons_succ];rfl) (fun x hx=>by rw [show x 15 = .slice a3 m c3 from hx 15 (by decide) (by decide)]) ?_ ?_
   ·refine⟨fun x w2 hkw b hd=>?_,fun x w2 hkw b hd=>?_,fun x w2 hkw b hd=>?_,fun x w2 hkw b hd=>?_,fun x w2 hkw b hd=>?_,fun x w2 hkw b hd=>?_,fun x w2 hkw b hd=>?_,fun x w2 hkw b hd=>?_,fun x w2 hkw b hd=>?_,fun x w2 hkw b hd=>?_,fun x w2 hkw b hd=>?_,fun x w2 hkw b hd=>?_,fun x w2 hkw b hd=>?_,fun x w2 hkw b hd=>?_,trivial⟩
    ·go_wp2_with fail
     exact⟨rfl,zb.refl _ _⟩
    ·go_wp2_with fail
     exact⟨rfl,zb.refl _ _⟩
    ·go_wp2_with fail
     exact⟨rfl,zb.refl _ _⟩
    ·have d1:x 1=_:=hd 1 (by kernel_rfl)
     have d2:x 2=_:=hd 2 (by kernel_rfl)
     have hkI:=Je.o
     go_wp2_with fail
     exact⟨rfl,zb.refl _ _⟩
    ·have d3:x 3=_:=hd 3 (by kernel_rfl)
     have y0:=hkw.cell HQ.o (by simp)
     go_wp2_with fail
     exact⟨rfl,zb.refl _ _⟩
    ·have d4:x 4=_:=hd 4 (by kernel_rfl)
     have hy0:=HY.o.1
     have hy1:=HY.o.2
     go_wp2_with fail
     exact⟨congrArg (Value.int .u8) Jq.o,zb.refl _ _⟩
    ·have d5:x 5=_:=hd 5 (by kernel_rfl)
     have hix:=IH.o w2
     go_wp2_with fail
     exact⟨rfl,zb.refl _ _⟩
    ·go_wp2_with fail
     exact⟨rfl,zb.refl _ _⟩
    ·go_wp2_with fail
     exact⟨rfl,zb.refl _ _⟩
    ·have d7:x 7=_:=hd 7 (by kernel_rfl)
     have d8:x 8=_:=hd 8 (by kernel_rfl)
     have hkI:=Je.o
     go_wp2_with fail
     exact⟨rfl,zb.refl _ _⟩
    ·have d9:x 9=_:=hd 9 (by kernel_rfl)
     have y0:=hkw.cell HQ.o (by simp)
     go_wp2_with fail
     exact⟨rfl,zb.refl _ _⟩
    ·have d10:x 10=_:=hd 10 (by kernel_rfl)
     have hy0:=HY.o.1
     have hy1:=HY.o.2
     go_wp2_with fail
     exact⟨congrArg (Value.int .u8) Jr.o,zb.refl _ _⟩
    ·have d11:x 11=_:=hd 11 (by kernel_rfl)
     have hix:=IL.o w2
     go_wp2_with fail
     exact⟨rfl,zb.refl _ _⟩
    ·have d6:x 6=_:=hd 6 (by kernel_rfl)
     have d12:x 12=_:=hd 12 (by kernel_rfl)
     go_wp2_with fail
     exact⟨⟨w2.heap.size,rfl,Nat.le_refl _,by simp,zV w2 [.int .u8 xh,.int .u8 xl] 1 2 _ _ rfl rfl (by decide)⟩,(zb.refl _ _).alloc _⟩
   ·intro x w7 hkw b7 hd hwin
    have d0:x 0=_:=hd 0 (by decide)
    obtain⟨g9,d13,-,-,hsl⟩:=hd 13 (by decide)
    have Gu:=qI hsl
    have Gg:=qI hkw
    clear hd hwin hkw hsl
    change wpList _ _ _ [_,_] _ _
    go_wp2_with (at_builtin;refine zj bj (v:=.slice a3 m c3) (n:=m) (zk Gc.o Gg.o (by simp)) Gu.o (by simp [Value.oneCell']) (by simp only [maxLen];have:=Gw.o;have:=HM.o;have:=Gf.o;omega) (by have:=Gw.o;have:=HM.o;have:=Gf.o;omega) (by have:=Gk.o.size;have:=Gg.o.size;omega) rfl _ _ rfl d0 d13 ?_;intro v5 w8 hown hk5 _ hb5;obtain⟨a5,c5,rfl,-,-⟩:=(Slc.of_row hown).form;have Gi:=qI hown;have Ga:=qI hk5;clear hown hk5 hb5)
    case roundEnd=>
     refine⟨⟨k + 1,m + 2,a5,c5,by go_num,by have:=Gf.o;omega,qI (by have:=HM.o;omega),rfl,?_,(Gk.o.then Gg.o).trans Ga.o (fun i hi=>.inr (Gc.o.lt i (Option.mem_toList.1 hi)).1)⟩,by have:=Gf.o;simp [intOf];omega⟩
     have h9:=Gi.o
     rw [Js.o,← List.map_append,← HZ.o] at h9
     exact h9
  ·obtain rfl:k=N:=by omega
   have hge:¬ k < k:=by omega
   have hrow:=Gc.o
   rw [List.take_of_length_le (by have:=HN.o;omega)] at hrow
   have hsl:=Slc.of_row hrow
   have hmm:m=(kq l).length:=by rw [jw,HM.o,HN.o]
   rw [hmm] at hsl
   have htr:(convert 53 9 (.slice a3 m c3)).run Tryz.prog wr = .ok (.string (xU l)) wr:=by rw [hmm];exact zp.toStr (l:=kq l) hsl
   clear hrow hsl hmm
   go_wp2_with fail
   go_ret
   exact⟨rfl,Gk.o⟩
theorem KM (b:Int) (h0:-9223372036854775808≤b) (h1:b≤9223372036854775807) (w:World):Calls Tryz.prog 85 #[.int .i64 b] w fun e w'=>e = .returned (.bool (yA b))∧w=w':=by
 have HB:Hid (yA b=(decide (8≤b) && (decide (b≤256) && decide (b % 8=0)))):=qI rfl
 by_cases k1:8≤b
 ·have d1:decide (8≤b)=true:=decide_eq_true k1
  by_cases k2:b≤256
  ·have d2:decide (b≤256)=true:=decide_eq_true k2
   by_cases k3:b % 8=0
   all_goals
    go_enter func85,ntmps85
    go_wp2_with fail
    go_ret
    exact⟨by rw [HB.o,d1,d2];simp [k3],rfl⟩
  ·have d2:decide (b≤256)=false:=decide_eq_false k2
   go_enter func85,ntmps85
   go_wp2_with fail
   go_ret
   exact⟨by rw [HB.o,d1,d2];rfl,rfl⟩
 ·have d1:decide (8≤b)=false:=decide_eq_false k1
  go_enter func85,ntmps85
  go_wp2_with fail
  go_ret
  exact⟨by rw [HB.o,d1];rfl,rfl⟩
theorem ZA (k:zP) (hb:kx k.bits) (w:World):Calls Tryz.prog 46 #[.agg (yi k)] w fun e w'=>e = .returned (.bool (zK k))∧zb [] w w':=by
 have HM:Hid (zK k=(yA k.bits && (decide (0≤k.height) && decide (k.height≤6)))):=qI rfl
 obtain⟨W0,Gb⟩:∃ W0,Hid (W0=w.alloc (.cells (yi k) 47)):=⟨_,qI rfl⟩
 have Ge:Hid (zb [] w W0):=qI (by rw [Gb.o];exact (zb.refl _ w).alloc _)
 have HA:Hid (yt W0 w.heap.size k):=qI (by rw [Gb.o];exact zd rfl)
 have CL:=qI (fun w1:World=>KM k.bits hb.1 hb.2 w1)
 have c0:=HA.o.c0
 have c1:=HA.o.c1
 revert HM CL
 generalize yA k.bits=r
 intro HM CL
 cases r with
 | false=>
  go_enter func46,ntmps46
  go_upto_region 1 with fail
  rw [← Gb.o]
  go_wp2_with (go_at_call 85;refine (CL.o _).mono ?_;rintro e w2 ⟨rfl,rfl⟩)
  go_ret
  exact⟨by rw [HM.o];rfl,Ge.o⟩
 | true=>
  by_cases k1:0≤k.height
  ·have d1:decide (0≤k.height)=true:=decide_eq_true k1
   go_enter func46,ntmps46
   go_upto_region 1 with fail
   rw [← Gb.o]
   go_wp2_with (go_at_call 85;refine (CL.o _).mono ?_;rintro e w2 ⟨rfl,rfl⟩)
   go_ret
   exact⟨by rw [HM.o,d1];rfl,Ge.o⟩
  ·have d1:decide (0≤k.height)=false:=decide_eq_false k1
   go_enter func46,ntmps46
   go_upto_region 1 with fail
   rw [← Gb.o]
   go_wp2_with (go_at_call 85;refine (CL.o _).mono ?_;rintro e w2 ⟨rfl,rfl⟩)
   go_ret
   exact⟨by rw [HM.o,d1];rfl,Ge.o⟩
theorem info5:(Tryz.prog.info? 25).map (·.size)=some 5:=by kernel_rfl
abbrev ValAt (w:World) (g:Nat) (k m:Int) (s:ByteArray) (a b:Value):Prop:=w.heap[g]? = some (.cells #[.int .i64 k,.int .i64 m,.string s,a,b] 25 (0,0))
abbrev RolAt (w:World) (g:Nat) (a:Value) (n:Int):Prop:=w.heap[g]? = some (.cells #[a,.int .i64 n] 31 (0,0))
theorem JM {ops:Array Oper}{rest:List Oper}{op:Oper}{a:Act}{w:World}{Q:Exit→Act→World→Prop}(hgd:op.guard=none) (x y:Operand) (ho:op.op = .store 25 x y) {g:Nat}{k m:Int}{s:ByteArray}{p q:Option Addr}{i c j d:Nat}(h0:ValAt w g 0 0 ⟨#[]⟩ (.slice none 0 0) (.slice none 0 0))
  (hx:a.eval x = .pointer (some ⟨g,0,none⟩)) (hy:a.eval y = .agg #[.int .i64 k,.int .i64 m,.string s,.slice p i c,.slice q j d]) (h:∀ w',ValAt w' g k m s (.slice p i c) (.slice q j d)→zb [g] w w'→wpList Tryz.prog ops Q rest (a.put op.dst undef) w'):wpList Tryz.prog ops Q (op :: rest) a w:=by
 refine wpList_store_mid hgd 25 x y ho g 0 _ hx hy (fun z hz=>?_) info5 ?_ (h _ (jU h0 k m s (.slice p i c) (.slice q j d)) (z7 _ _ _ _))
 ·rw [Nat.zero_add]
  refine⟨?_,zh h0⟩
  have hz':z < 5:=hz
  rw [za (v:=(#[Value.int .i64 0,.int .i64 0,.string ⟨#[]⟩,.slice none 0 0,.slice none 0 0]:Array Value)[z]) h0 (by simp [hz'])]
  rfl
 ·exact all_oneCell_toArray (by intro v hv;simp only [List.mem_cons,List.not_mem_nil,or_false] at hv;rcases hv with rfl | rfl | rfl | rfl | rfl <;> rfl)
def j7 (k:zP):V 3:=(Ze [(⟨#[107,101,121,116,121,112,101]⟩,(qE ⟨#[108,97,109,112,111,114,116,45,109,101,114,107,108,101]⟩:VS (V 1))),(⟨#[107,101,121,118,97,108]⟩,jO k),(⟨#[115,99,104,101,109,101]⟩,qE ⟨#[115,104,97,50,53,54]⟩)]:VS (V 2))
def newRFact (n:Nat) (v:V n):zg (zb []):=⟨fun u b w=>∃ k m s p i c q j d,u = .agg #[.int .i64 k,.int .i64 m,.string s,.slice p i c,.slice q j d]∧Rep n (fun g=>b.1≤g∧g < b.2) w [.int .i64 k,.int .i64 m,.string s,.slice p i c,.slice q j d] v,
 fun _ _ _ _ ⟨k,m,s,p,i,c,q,j,d,h1,h2⟩ kk=>⟨k,m,s,p,i,c,q,j,d,h1,h2.kept0 kk⟩⟩
def Zg (w w':World) (e:Ending) (k:zP):Prop:=if zK k=true then NewR 3 (fun g=>w.heap.size≤g) w' e (j7 k) else e = .returned ZG
theorem QC (k:zP) (hb:kx k.bits) (hr:k.root.length=32) (w:World):Calls Tryz.prog 50 #[.agg (yi k)] w fun e w'=>Zg w w' e k∧zb [] w w':=by
 obtain⟨W0,Gb⟩:∃ W0,Hid (W0=(w.alloc (.cells (yi k) 47)).alloc (.cells #[.int .i64 0,.int .i64 0,.string ⟨#[]⟩,.slice none 0 0,.slice none 0 0] 25)):=⟨_,qI rfl⟩
 have Ge:Hid (zb [] w W0):=qI (by rw [Gb.o];exact ((zb.refl _ w).alloc _).alloc _)
 have HA:Hid (yt W0 w.heap.size k):=qI (by rw [Gb.o];exact ((zb.refl [] _).alloc _).heap (zd rfl) (by simp))
 have Gr:Hid (W0.heap[w.heap.size + 1]? = some (.cells #[.int .i64 0,.int .i64 0,.string ⟨#[]⟩,.slice none 0 0,.slice none 0 0] 25 (0,0))):=qI (by rw [Gb.o];exact zd (by simp))
 have Gm:Hid (W0.heap.size=w.heap.size + 2):=qI (by rw [Gb.o];simp)
 have CM:=qI (ZA k hb W0)
 have Gh:=qI hr
 clear hb hr
 by_cases hm:zK k=true
 rotate_left
 ·have hm2:zK k=false:=by simpa using hm
  rw [hm2] at CM
  have Gx:Hid (∀ w' e,Zg w w' e k=(e = .returned ZG)):=qI (fun w' e=>by unfold Zg;rw [if_neg hm])
  clear hm hm2
  go_enter func50,ntmps50
  go_upto_region 1 with fail
  rw [← Gb.o]
  go_wp2_with first
   | (refine zT (by rfl) (.tmp 1) (by rfl) HA.o Gh.o (by rfl) ?_)
   | (go_at_call 46;refine CM.o.mono ?_;rintro e w1 ⟨rfl,hk1⟩;have Gj:=qI hk1;have Gy:=qI (hk1.heap Gr.o (by simp));obtain⟨r0,r1,r2,r3,r4⟩:=k7 Gy.o;have z:∀ j,w1.frozen? ⟨w.heap.size + 1,j,none⟩=false:=fun j=>zh Gy.o;clear hk1)
  change bodyPost _ _ _ _ _ (vG w1 (w.heap.size + 1) 0 0 ⟨#[]⟩ (.slice none 0 0) (.slice none 0 0))
  have Gd:=kN w1 (w.heap.size + 1) 0 0 ⟨#[]⟩ (.slice none 0 0) (.slice none 0 0)
  obtain⟨y0,y1,y2,y3,y4⟩:=k7 (jU Gy.o 0 0 ⟨#[]⟩ (.slice none 0 0) (.slice none 0 0))
  revert Gd y0 y1 y2 y3 y4
  generalize vG w1 (w.heap.size + 1) 0 0 ⟨#[]⟩ (.slice none 0 0) (.slice none 0 0)=WF
  intro Gd y0 y1 y2 y3 y4
  refine bodyPost_ret (v:=ZG) (by simp [results,results50,go_sem,y0,y1,y2,y3,y4,ZG]) rfl ?_
  rw [Gx.o]
  exact⟨rfl,(Ge.o.then Gj.o).trans Gd (by intro i hi;simp at hi;subst hi;exact .inr (by omega))⟩
 have Gx:Hid (∀ w' e,Zg w w' e k=NewR 3 (fun g=>w.heap.size≤g) w' e (j7 k)):=qI (fun w' e=>by unfold Zg;rw [if_pos hm])
 have Jh:Hid (kx k.bits∧kx k.height):=qI (may_wf hm)
 rw [hm] at CM
 obtain⟨hs,Ji⟩:∃ hs,Hid (hs=xU k.root):=⟨_,qI rfl⟩
 clear hm
 go_enter func50,ntmps50
 go_upto_region 1 with fail
 rw [← Gb.o]
 go_upto_region 3 with first
  | (refine zT (by rfl) (.tmp 1) (by rfl) HA.o Gh.o (by rfl) ?_)
  | (go_at_call 46;refine CM.o.mono ?_;rintro e w1 ⟨rfl,hk1⟩;have Gj:=qI hk1;clear hk1)
 have Jt:Hid (∀ w2:World,zb [] w1 w2→Calls Tryz.prog 51 #[.slice (some ⟨w.heap.size,2,none⟩) 32 32] w2 fun e w'=>e = .returned (.string hs)∧zb [] w2 w'):=qI (fun w2 hk=>by
  have h1:=YF (w:=w2) (a:=some ⟨w.heap.size,2,none⟩) (c:=32) (l:=k.root) (by rw [Gh.o];exact (HA.o.root Gh.o).kept0 (Gj.o.then hk)) (by rw [Gh.o];decide)
  rw [Gh.o,← Ji.o] at h1
  exact h1)
 refine zZ (n:=27) 14 [yU [.string ⟨#[98,105,116,115]⟩,.string ⟨#[104,101,105,103,104,116]⟩,.string ⟨#[112,117,98,108,105,99]⟩] 3 1,
  zg.is (.pointer (some ⟨w.heap.size,0,none⟩)),
  zg.is (.int .i64 k.bits),
  zg.is (.agg #[.int .i64 3,.int .i64 k.bits,.string ⟨#[]⟩,.slice none 0 0,.slice none 0 0]),
  zg.is (.pointer (some ⟨w.heap.size,1,none⟩)),
  zg.is (.int .i64 k.height),
  zg.is (.agg #[.int .i64 3,.int .i64 k.height,.string ⟨#[]⟩,.slice none 0 0,.slice none 0 0]),
  zg.is (.pointer (some ⟨w.heap.size,2,none⟩)),
  zg.is (.slice (some ⟨w.heap.size,2,none⟩) 32 32),
  zg.is (.string hs),
  zg.is (.agg #[.int .i64 4,.int .i64 0,.string hs,.slice none 0 0,.slice none 0 0]),
  yU [.int .i64 3,.int .i64 k.bits,.string ⟨#[]⟩,.slice none 0 0,.slice none 0 0,.int .i64 3,.int .i64 k.height,.string ⟨#[]⟩,.slice none 0 0,.slice none 0 0,.int .i64 4,.int .i64 0,.string hs,.slice none 0 0,.slice none 0 0] 3 5,
  newRFact 2 (jO k),
  boxFact 25] (by kernel_rfl) rfl (by kernel_rfl) (fun x=>by simp only [List.map,yM,Act.put,List.setIfInBounds_toArray,List.set_cons_zero,List.set_cons_succ];rfl) ?_ ?_
 ·refine⟨fun x w2 hkw b hd=>?_,fun x w2 hkw b hd=>?_,fun x w2 hkw b hd=>?_,fun x w2 hkw b hd=>?_,fun x w2 hkw b hd=>?_,fun x w2 hkw b hd=>?_,fun x w2 hkw b hd=>?_,fun x w2 hkw b hd=>?_,fun x w2 hkw b hd=>?_,fun x w2 hkw b hd=>?_,fun x w2 hkw b hd=>?_,fun x w2 hkw b hd=>?_,fun x w2 hkw b hd=>?_,fun x w2 hkw b hd=>?_,trivial⟩
  ·go_wp2_with fail
   exact⟨⟨w2.heap.size,rfl,Nat.le_refl _,by simp,zV w2 [.string ⟨#[98,105,116,115]⟩,.string ⟨#[104,101,105,103,104,116]⟩,.string ⟨#[112,117,98,108,105,99]⟩] 1 3 _ _ rfl rfl (by decide)⟩,(zb.refl _ _).alloc _⟩
  ·go_wp2_with fail
   exact⟨rfl,zb.refl _ _⟩
  ·have d1:x 1=_:=hd 1 (by kernel_rfl)
   have y0:=(HA.o.kept0 (Gj.o.then hkw)).c0
   go_wp2_with fail
   exact⟨rfl,zb.refl _ _⟩
  ·have d2:x 2=_:=hd 2 (by kernel_rfl)
   have CX:=K4 k.bits w2
   go_wp2_with (go_at_call 92;refine CX.mono ?_;rintro e w5 ⟨rfl,hk5⟩;have Ga:=qI hk5;clear hk5)
   exact⟨rfl,Ga.o⟩
  ·go_wp2_with fail
   exact⟨rfl,zb.refl _ _⟩
  ·have d4:x 4=_:=hd 4 (by kernel_rfl)
   have y0:=(HA.o.kept0 (Gj.o.then hkw)).c1
   go_wp2_with fail
   exact⟨rfl,zb.refl _ _⟩
  ·have d5:x 5=_:=hd 5 (by kernel_rfl)
   have CX:=K4 k.height w2
   go_wp2_with (go_at_call 92;refine CX.mono ?_;rintro e w5 ⟨rfl,hk5⟩;have Ga:=qI hk5;clear hk5)
   exact⟨rfl,Ga.o⟩
  ·go_wp2_with fail
   exact⟨rfl,zb.refl _ _⟩
  ·have d7:x 7=_:=hd 7 (by kernel_rfl)
   go_wp2_with fail
   exact⟨rfl,zb.refl _ _⟩
  ·have d8:x 8=_:=hd 8 (by kernel_rfl)
   have CX:=Jt.o _ hkw
   go_wp2_with (go_at_call 51;refine CX.mono ?_;rintro e w5 ⟨rfl,hk5⟩;have Ga:=qI hk5;clear hk5)
   exact⟨rfl,Ga.o⟩
  ·have d9:x 9=_:=hd 9 (by kernel_rfl)
   have CX:=bE hs w2
   go_wp2_with (go_at_call 93;refine CX.mono ?_;rintro e w5 ⟨rfl,hk5⟩;have Ga:=qI hk5;clear hk5)
   exact⟨rfl,Ga.o⟩
  ·have d3:x 3=_:=hd 3 (by kernel_rfl)
   have d6:x 6=_:=hd 6 (by kernel_rfl)
   have d10:x 10=_:=hd 10 (by kernel_rfl)
   go_wp2_with fail
   exact⟨⟨w2.heap.size,rfl,Nat.le_refl _,by simp,zV w2 [.int .i64 3,.int .i64 k.bits,.string ⟨#[]⟩,.slice none 0 0,.slice none 0 0,.int .i64 3,.int .i64 k.height,.string ⟨#[]⟩,.slice none 0 0,.slice none 0 0,.int .i64 4,.int .i64 0,.string hs,.slice none 0 0,.slice none 0 0] 5 3 _ _ rfl rfl (by decide)⟩,(zb.refl _ _).alloc _⟩
  ·obtain⟨g0,d0,-,-,hs0⟩:=hd 0 (by kernel_rfl)
   obtain⟨g5,d11,-,-,hs5⟩:=hd 11 (by kernel_rfl)
   have CX:=QN (n:=1) (N:=3) (ks:=[⟨#[98,105,116,115]⟩,⟨#[104,101,105,103,104,116]⟩,⟨#[112,117,98,108,105,99]⟩]) (lcs:=[[.int .i64 3,.int .i64 k.bits,.string ⟨#[]⟩,.slice none 0 0,.slice none 0 0],[.int .i64 3,.int .i64 k.height,.string ⟨#[]⟩,.slice none 0 0,.slice none 0 0],[.int .i64 4,.int .i64 0,.string hs,.slice none 0 0,.slice none 0 0]]) (vs:=[(YA k.bits:VS (V 0)),YA k.height,qE hs]) (S:=fun _=>False) hs0 hs5 (zI.cons (QL (n:=0) _ _ _ Jh.o.1) (zI.cons (QL (n:=0) _ _ _ Jh.o.2) (zI.cons (vf (n:=0) _ _ hs) (zI.nil _)))) rfl rfl (by decide)
   clear hs0 hs5
   go_wp2_with (go_at_call 91;refine CX.mono ?_;rintro e w5 ⟨⟨cs5,rfl,hr5⟩,hk5⟩;obtain⟨k3,m3,s3,p3,i3,c3,q3,j3,e3,rfl⟩:=hr5.conv;have Gz:=qI (hr5.mono (T:=fun g=>w2.heap.size≤g∧g < w5.heap.size) (fun g hg h=>by rcases h with h | h;exact h.elim;exact⟨h,hg⟩));have Ga:=qI hk5;clear hk5 hr5)
   exact⟨⟨_,_,_,_,_,_,_,_,_,rfl,by have h9:=Gz.o;rw [Ji.o] at h9;exact h9⟩,Ga.o⟩
  ·go_wp2_with fail
   exact⟨⟨w2.heap.size,Nat.le_refl _,by simp,rfl,zd rfl⟩,(zb.refl _ _).alloc _⟩
 intro x w3 hkw b hd hwin
 obtain⟨vk,vm,vs,vp,vi,vc,vq,vj,vd,d12,hrv⟩:=hd 12 (by decide)
 obtain⟨bx,hb1,hb2,d13,hbx⟩:=hd 13 (by decide)
 have Ja:=qI hwin
 have Gp:=qI hkw
 have Ju:=qI hrv
 have Jv:=qI hbx
 have Jj:Hid ((b 13).1≤bx∧bx < (b 13).2):=qI ⟨hb1,hb2⟩
 clear hd hwin hkw hrv hbx hb1 hb2
 change wpList _ _ _ [_] _ _
 go_upto_region 4 with (refine JM (by rfl) (.tmp 3) (.tmp 20) (by rfl) (g:=bx) Jv.o d13 d12 ?_;intro w4 h hk;have HV:=qI h;have Gq:=qI hk;clear h hk;simp only [Act.put])
 have Jw:Hid (w1.heap.size≤bx∧bx < w3.heap.size):=qI (by have h1:=Ja.o.1 13 (by decide);have h2:=Jj.o;omega)
 have Gn:Hid (zb [] w1 w4):=qI (Gp.o.trans Gq.o (by intro i hi;simp at hi;subst hi;exact .inr Jw.o.1))
 have Jx:Hid (W0.heap.size≤w4.heap.size):=qI (Gj.o.then Gn.o).size
 have Jy:Hid (Rep 2 (fun g=>W0.heap.size≤g) w4 [.int .i64 vk,.int .i64 vm,.string vs,.slice vp vi vc,.slice vq vj vd] (jO k)):=qI (by
  have h1:=Ja.o.1 12 (by decide)
  have h2:=Ja.o.2 12 13 (by decide) (by decide) (by decide)
  have h3:=Jj.o
  have h4:=Gj.o.size
  exact (Ju.o.kept Gq.o (by intro i hi;simp at hi;subst hi;omega)).mono (fun g _ h=>by omega))
 obtain⟨b0,b1,b2,b3,b4⟩:=k7 HV.o
 refine zZ (n:=27) 6 [yU [.string ⟨#[107,101,121,116,121,112,101]⟩,.string ⟨#[107,101,121,118,97,108]⟩,.string ⟨#[115,99,104,101,109,101]⟩] 3 1,
  zg.is (.agg #[.int .i64 4,.int .i64 0,.string ⟨#[108,97,109,112,111,114,116,45,109,101,114,107,108,101]⟩,.slice none 0 0,.slice none 0 0]),
  zg.is (.agg #[.int .i64 vk,.int .i64 vm,.string vs,.slice vp vi vc,.slice vq vj vd]),
  zg.is (.agg #[.int .i64 4,.int .i64 0,.string ⟨#[115,104,97,50,53,54]⟩,.slice none 0 0,.slice none 0 0]),
  yU [.int .i64 4,.int .i64 0,.string ⟨#[108,97,109,112,111,114,116,45,109,101,114,107,108,101]⟩,.slice none 0 0,.slice none 0 0,.int .i64 vk,.int .i64 vm,.string vs,.slice vp vi vc,.slice vq vj vd,.int .i64 4,.int .i64 0,.string ⟨#[115,104,97,50,53,54]⟩,.slice none 0 0,.slice none 0 0] 3 5,
  repFact (fun g=>W0.heap.size≤g) 3 (j7 k)] (by kernel_rfl) rfl (by kernel_rfl) (fun x=>by simp only [List.map,yM,Act.put,List.setIfInBounds_toArray,List.set_cons_zero,List.set_cons_succ];rfl) ?_ ?_
 ·refine⟨fun x w2 hkw b hd=>?_,fun x w2 hkw b hd=>?_,fun x w2 hkw b hd=>?_,fun x w2 hkw b hd=>?_,fun x w2 hkw b hd=>?_,fun x w2 hkw b hd=>?_,trivial⟩
  ·go_wp2_with fail
   exact⟨⟨w2.heap.size,rfl,Nat.le_refl _,by simp,zV w2 [.string ⟨#[107,101,121,116,121,112,101]⟩,.string ⟨#[107,101,121,118,97,108]⟩,.string ⟨#[115,99,104,101,109,101]⟩] 1 3 _ _ rfl rfl (by decide)⟩,(zb.refl _ _).alloc _⟩
  ·have CX:=bE ⟨#[108,97,109,112,111,114,116,45,109,101,114,107,108,101]⟩ w2
   go_wp2_with (go_at_call 93;refine CX.mono ?_;rintro e w5 ⟨rfl,hk5⟩;have Ga:=qI hk5;clear hk5)
   exact⟨rfl,Ga.o⟩
  ·have y0:=hkw.cell b0 (by simp)
   have y1:=hkw.cell b1 (by simp)
   have y2:=hkw.cell b2 (by simp)
   have y3:=hkw.cell b3 (by simp)
   have y4:=hkw.cell b4 (by simp)
   go_wp2_with fail
   exact⟨rfl,zb.refl _ _⟩
  ·have CX:=bE ⟨#[115,104,97,50,53,54]⟩ w2
   go_wp2_with (go_at_call 93;refine CX.mono ?_;rintro e w5 ⟨rfl,hk5⟩;have Ga:=qI hk5;clear hk5)
   exact⟨rfl,Ga.o⟩
  ·have d1:x 1=_:=hd 1 (by kernel_rfl)
   have d2:x 2=_:=hd 2 (by kernel_rfl)
   have d3:x 3=_:=hd 3 (by kernel_rfl)
   go_wp2_with fail
   exact⟨⟨w2.heap.size,rfl,Nat.le_refl _,by simp,zV w2 [.int .i64 4,.int .i64 0,.string ⟨#[108,97,109,112,111,114,116,45,109,101,114,107,108,101]⟩,.slice none 0 0,.slice none 0 0,.int .i64 vk,.int .i64 vm,.string vs,.slice vp vi vc,.slice vq vj vd,.int .i64 4,.int .i64 0,.string ⟨#[115,104,97,50,53,54]⟩,.slice none 0 0,.slice none 0 0] 5 3 _ _ rfl rfl (by decide)⟩,(zb.refl _ _).alloc _⟩
  ·obtain⟨g0,d0,-,-,hs0⟩:=hd 0 (by kernel_rfl)
   obtain⟨g5,d4,-,-,hs5⟩:=hd 4 (by kernel_rfl)
   have CX:=QN (n:=2) (N:=3) (ks:=[⟨#[107,101,121,116,121,112,101]⟩,⟨#[107,101,121,118,97,108]⟩,⟨#[115,99,104,101,109,101]⟩]) (lcs:=[[.int .i64 4,.int .i64 0,.string ⟨#[108,97,109,112,111,114,116,45,109,101,114,107,108,101]⟩,.slice none 0 0,.slice none 0 0],[.int .i64 vk,.int .i64 vm,.string vs,.slice vp vi vc,.slice vq vj vd],[.int .i64 4,.int .i64 0,.string ⟨#[115,104,97,50,53,54]⟩,.slice none 0 0,.slice none 0 0]]) (vs:=[(qE ⟨#[108,97,109,112,111,114,116,45,109,101,114,107,108,101]⟩:VS (V 1)),jO k,qE ⟨#[115,104,97,50,53,54]⟩]) (S:=fun g=>W0.heap.size≤g) hs0 hs5 (zI.cons (vf (n:=1) _ _ _) (zI.cons (Jy.o.kept0 hkw) (zI.cons (vf (n:=1) _ _ _) (zI.nil _)))) rfl rfl (by decide)
   clear hs0 hs5
   go_wp2_with (go_at_call 91;refine CX.mono ?_;rintro e w5 ⟨⟨cs5,rfl,hr5⟩,hk5⟩;obtain⟨k3,m3,s3,p3,i3,c3,q3,j3,e3,rfl⟩:=hr5.conv;have Gz:=qI (hr5.mono (T:=fun g=>W0.heap.size≤g) (fun g _ h=>by have:=Jx.o;have:=hkw.size;rcases h with h | h <;> omega));have Ga:=qI hk5;clear hk5 hr5)
   exact⟨⟨_,_,_,_,_,_,_,_,_,rfl,Gz.o⟩,Ga.o⟩
 intro x2 w7 hkw7 b7 hd7 hwin7
 obtain⟨k6,m6,s6,p6,i6,c6,q6,j6,e6,d5,hr6⟩:=hd7 5 (by decide)
 have Jz:=qI hr6
 have Gg:=qI hkw7
 have Jb:=qI (((Gj.o.then Gn.o).then hkw7).heap Gr.o (by simp))
 clear hd7 hwin7 hkw7 hr6
 obtain⟨r0,r1,r2,r3,r4⟩:=k7 Jb.o
 have z:∀ j,w7.frozen? ⟨w.heap.size + 1,j,none⟩=false:=fun j=>zh Jb.o
 change wpList _ _ _ [_] _ _
 go_wp2_with fail
 change bodyPost _ _ _ _ _ (vG w7 (w.heap.size + 1) k6 m6 s6 (.slice p6 i6 c6) (.slice q6 j6 e6))
 have Gd:=kN w7 (w.heap.size + 1) k6 m6 s6 (.slice p6 i6 c6) (.slice q6 j6 e6)
 obtain⟨y0,y1,y2,y3,y4⟩:=k7 (jU Jb.o k6 m6 s6 (.slice p6 i6 c6) (.slice q6 j6 e6))
 revert Gd y0 y1 y2 y3 y4
 generalize vG w7 (w.heap.size + 1) k6 m6 s6 (.slice p6 i6 c6) (.slice q6 j6 e6)=WF
 intro Gd y0 y1 y2 y3 y4
 refine bodyPost_ret (v:=.agg #[.int .i64 k6,.int .i64 m6,.string s6,.slice p6 i6 c6,.slice q6 j6 e6]) (by simp [results,results50,go_sem,y0,y1,y2,y3,y4]) rfl ?_
 rw [Gx.o]
 have Gs:zb [] w WF:=(((Ge.o.then Gj.o).then Gn.o).then Gg.o).trans Gd (by intro i hi;simp at hi;subst hi;exact .inr (by omega))
 exact⟨⟨_,rfl,(Jz.o.kept Gd (by intro i hi;simp at hi;subst hi;have:=Gm.o;omega)).mono (fun g _ h=>by have:=Gm.o;omega)⟩,Gs⟩
end Go.Proofs.YtibnfbglanpoiaaGreatDoor

/- Parts of one proof, merged: XBN XFH XFA XFB XFC XFD XFE. -/
import Derived.Test.YtibnfbglanpoiaaGreatDoorQeAB
import Derived.Test.YtibnfbglanpoiaaGreatDoorQeW
set_option linter.all false
set_option maxHeartbeats 12800000
set_option maxRecDepth 100000
namespace Go.Proofs.YtibnfbglanpoiaaGreatDoor
open Go.Proofs.Tryz
open Go.RowKit
attribute [local go_sem] Oper.semAt_some
theorem pair_flat {o:ZD}(h1:yC o.rev) (h2:yC o.oth) (hl:o.oth.length=o.rev.length):∀ k,k≤o.rev.length→((List.range k).map (jr o)).flatten.length=64*k
 | 0,_=>rfl
 | k+1,hk=>by
  have h3:=jP h1 h2 hl (b:=k) Ws
  rw [jR,List.length_append,pair_flat h1 h2 hl k Ws,jr,List.length_append]
  omega
theorem lamEncode_any {w:World}{s:ZD}{a1 a2:Option Addr}{c1 c2 n:Nat}(hn:s.rev.length=n) (hn2:s.oth.length=n) (hr32:yC s.rev) (ho32:yC s.oth) (hs1:Slc w 32 (.slice a1 n c1) n (s.rev.flatten.map bv)) (hs2:Slc w 32 (.slice a2 n c2) n (s.oth.flatten.map bv)) (hmb:yv n=true) :
  Calls Tryz.prog 79 #[.agg #[.slice a1 n c1,.slice a2 n c2]] w fun e w'=>(∃ a c,e = .returned (.tuple #[.slice a (jn s).length c,.int .i64 0])∧zp w' (.slice a (jn s).length c) (jn s))∧zb [] w w':=by
 have hn8:8≤n∧n≤256:=by
  unfold yv at hmb
  simp only [Bool.and_eq_true,decide_eq_true_eq] at hmb
  omega
 obtain⟨g1,o1,rfl,-,hr1⟩:=xy hs1 Ws
 obtain⟨g2,o2,rfl,-,hr2⟩:=xy hs2 Ws
 obtain⟨W1,Ga⟩:∃ W1,Hid (W1=w.alloc (.cells #[.slice (some ⟨g1,o1,none⟩) n c1,.slice (some ⟨g2,o2,none⟩) n c2] 80)):=⟨_,qI rfl⟩
 have Gb:Hid (zb [] w W1):=qI (kA1 Ga.o)
 have Jx:Hid (W1.heap[w.heap.size]? = some (.cells #[.slice (some ⟨g1,o1,none⟩) n c1,.slice (some ⟨g2,o2,none⟩) n c2] 80 (0,0))):=qI (by rw [Ga.o];exact zd rfl)
 have f0:=za (o:=0) Jx.o rfl
 have f1:=za (o:=1) Jx.o rfl
 have CW:=qI (Qe W1 (some ⟨g1,o1,none⟩) (some ⟨g2,o2,none⟩) n c1 c2 hmb)
 have Gu:=qI (hr1.kept Gb.o Wz)
 have Gv:=qI (hr2.kept Gb.o Wz)
 have Mj:Hid (∀ k,k≤n→(((List.range k).map (jr s)).flatten).length=64*k):=qI (fun k hk=>pair_flat hr32 ho32 Ws k Ws)
 have Mk:Hid (jn s=((List.range n).map (jr s)).flatten):=qI (by unfold jn;rw [hn])
 have Ml:=qI hn
 have Mm:=qI hn2
 have H32:=qI (And.intro hr32 ho32)
 have hnI:(n:Int)≤256:=Ws
 have Mn:=qI hn8
 clear hs1 hs2 hmb hr1 hr2 hr32 ho32 hn hn2 hn8
 go_enter func79,ntmps79
 go_upto_region 1 with fail
 refine yq Ga.o ?_
 go_upto_region 3 with (go_at_call 111;refine CW.o.mono ?_;rintro e ws ⟨rfl,hk2⟩;have Gf:=qI hk2;clear hk2)
 obtain⟨W4,Jy⟩:∃ W4,Hid (W4=ws.alloc (.cells #[.slice none 0 0] 109)):=⟨_,qI rfl⟩
 have Gw:Hid (qu ws ws.heap.size W4 []):=qI (by rw [Jy.o];exact sumsNew ws)
 have c1':=(Gf.o.then Gw.o.kept).cell f0 Wz
 clear f0
 go_upto_region 4 with fail
 rw [← Jy.o]
 generalize hp:ws.heap.size=p at Gw
 clear hp
 go_wp2_with fail
 go_loopw [5,6,15] (fun _ _ i wr=>∃ k:Nat,i = .int .i64 k∧k≤n∧qu ws p wr ((List.range k).map (jr s)).flatten) (fun _ _ i _=>n-(intOf i).toNat)
 case atStart=>exact⟨0,rfl,Nat.zero_le _,Gw.o⟩
 case round=>
  obtain⟨k,rfl,hk,hsm⟩:=hrel
  have Je:=qI hsm
  clear hsm c1'
  rcases Nat.lt_or_ge k n with h8 | h8
  ·have h8I:(k:Int)<n:=by omega
   have Mo:=qI h8I
   have Gh:=qI h8
   have Jj:Hid (zb [] W1 wr):=qI (Gf.o.then Je.o.kept)
   have hkr:k<s.rev.length:=by rw [Ml.o];exact h8
   have hko:k<s.oth.length:=by rw [Mm.o];exact h8
   have Gr:Hid (wr.rangeAt g1 (o1+k*32) (s.rev[k].map bv)):=qI (Qk (Gu.o.kept Jj.o Wz) H32.o.1 k hkr)
   have Gx:Hid (wr.rangeAt g2 (o2+k*32) (s.oth[k].map bv)):=qI (Qk (Gv.o.kept Jj.o Wz) H32.o.2 k hko)
   have Gp:Hid (s.rev[k].length=32):=qI (H32.o.1 _ (List.getElem_mem _))
   have Jk:Hid (s.oth[k].length=32):=qI (H32.o.2 _ (List.getElem_mem _))
   have Jl:Hid (jr s k=s.rev[k]++s.oth[k]):=qI (by
    rw [jr,List.getD,List.getElem?_eq_getElem hkr,List.getD,List.getElem?_eq_getElem hko];rfl)
   have Mp:=qI (jR (jr s) k)
   have Mq:=qI (Mj.o k Ws)
   have f1:=Jj.o.cell f1 Wz
   generalize s.rev[k]=x1 at Gr Gp Jl
   generalize s.oth[k]=y1 at Gx Jk Jl
   clear hkr hko h8
   go_upto_region 7 with first
    | (refine zS Wk _ rfl (g:=g1) (of:=o1+k*32) Gr.o Gp.o Wk ?_)
    | (refine zq Wk (.tmp 6) (.tmp 19) Wk (g:=wr.heap.size) (l0:=xe zu 0) (zd rfl) (zJ _ _) Gp.o Wk Wk ?_;intro w4 h4 hk4;have Mr:=qI h4;have Gg:Hid (zb [] wr w4):=qI (((zb.refl [] wr).alloc _).trans hk4 (by intro i hi;simp at hi;subst hi;exact .inr (Nat.le_refl _)));clear h4 hk4;simp only [Act.put])
   have Ms:Hid (w4.rangeAt g2 (o2+k*32) (y1.map bv)):=qI (fun j v hv=>Gg.o.cell (Gx.o j v hv) Wz)
   have f1:=Gg.o.cell f1 Wz
   have CA:Hid (∀ w3,zb [] w4 w3→Calls Tryz.prog 70 #[.pointer (some ⟨p,0,none⟩),.agg (x1.map bv).toArray,.agg (y1.map bv).toArray] w3 fun e w'=>e = .returned (.tuple #[])∧qu ws p w' ((List.range (k+1)).map (jr s)).flatten):=qI (fun w3 h=>by
    have h1:=vN (Je.o.kept0 (Gg.o.then h)) Gp.o Jk.o (by have:=Mq.o;have:=Mn.o;omega)
    rw [Mp.o,Jl.o,← List.append_assoc]
    exact h1)
   go_wp2
   refine zK (n:=33) 7 [fI (.pointer (some ⟨p,0,none⟩)),
    fI (.agg (x1.map bv).toArray),
    fI (.pointer (some ⟨w.heap.size,1,none⟩)),
    fI (.slice (some ⟨g2,o2,none⟩) n c2),
    fI (.int .i64 k),
    fI (.pointer (some ⟨g2,o2+k*32,none⟩)),
    fI (.agg (y1.map bv).toArray)] Wr rfl Wr (fun x=>yH) ?_ ?_
   ·refine⟨?_,?_,?_,?_,?_,?_,?_,trivial⟩ <;> intro x w2 hkw b hd
    ·exact ze
    ·change wpList _ _ _ [_] _ _
     refine zP Wk (.tmp 6) Wk (Mr.o.kept0 hkw) Gp.o Wk ?_
     exact⟨rfl,_,rfl,rfl,Wd⟩
    ·exact ze
    ·have d2:x 2=_:=hd 2 Wr
     have y0:=hkw.cell f1 Wz
     exact ze
    ·exact ze
    ·have d3:x 3=_:=hd 3 Wr
     have d4:x 4=_:=hd 4 Wr
     have hkN:=Mo.o
     exact ze
    ·have d5:x 5=_:=hd 5 Wr
     have d5:x 5=_:=hd 5 Wr
     change wpList _ _ _ [_] _ _
     refine zS Wk _ rfl (g:=g2) (of:=o2+k*32) (fun j v hv=>hkw.cell (Ms.o j v hv) Wz) Jk.o d5 ?_
     exact⟨rfl,_,rfl,rfl,Wd⟩
   ·intro x w17 hkw b17 hd hwin
    have d0:x 0=_:=hd 0 Wo
    have d1:x 1=_:=hd 1 Wo
    have d6:x 6=_:=hd 6 Wo
    have CX:=qI (CA.o w17 hkw)
    clear hd hwin hkw
    change wpList _ _ _ [_] _ _
    go_wp2_with (go_at_call 70;refine CX.o.mono ?_;rintro e w9 ⟨rfl,hsm⟩;have Jm:=qI hsm;clear hsm)
    case roundEnd=>exact⟨⟨k+1,by go_num,by have:=Gh.o;omega,Jm.o⟩,by have:=Gh.o;simp [intOf];omega⟩
  ·obtain rfl:k=n:=by omega
   obtain⟨av,cv,hb,hrow⟩:=Je.o.val
   have Gj:=qI hrow
   have e0:=za (o:=0) hb rfl
   rw [← Mk.o] at Gj e0
   clear hb hrow
   go_wp2_with fail
   go_ret2
   exact⟨⟨_,_,rfl,Slc.of_row Gj.o⟩,Gb.o.then (Gf.o.then Je.o.kept)⟩
structure RdD (N:Nat) (w:World) (p:Nat) (l:List UInt8) (bad:Bool):Prop where
 np:N≤p
 val:∃ a c,w.heap[p]? = some (.cells #[.slice a l.length c,.bool bad] 209 (0,0))∧zp w (.slice a l.length c) l∧∀ g,zW (.slice a l.length c)=some g→g<N
theorem RdD.kept {N:Nat}{X:List Nat}{w w':World}{p:Nat}{l:List UInt8}{bad:Bool}(h:RdD N w p l bad) (k:zb X w w') (hX:∀ x,x∈X→N≤x∧x≠p):RdD N w' p l bad:=by
 obtain⟨a,c,h1,h2,h3⟩:=h.val
 exact⟨h.np,a,c,k.heap h1 (fun hx=>(hX p hx).2 rfl),h2.kept k (fun g hg hx=>by have:=h3 g hg;have:=(hX g hx).1;omega),h3⟩
theorem RdD.lt {N:Nat}{w:World}{p:Nat}{l:List UInt8}{bad:Bool}(h:RdD N w p l bad):p<w.heap.size:=by
 obtain⟨a,c,h1,-,-⟩:=h.val
 exact lt_of_block h1
theorem Y7 {N:Nat}{w:World}{p:Nat}{l:List UInt8}{bad:Bool}(h:RdD N w p l bad) :
  Calls Tryz.prog 193 #[.pointer (some ⟨p,0,none⟩)] w fun e w'=>e = .returned (.tuple #[])∧RdD N w' p [] true∧zb [p] w w':=by
 obtain⟨a,c,h1,-,-⟩:=h.val
 have c0:=za (o:=0) h1 rfl
 have c1:=za (o:=1) h1 rfl
 have f:=fun o=>zh (o:=o) h1
 have H1:=qI h1
 have Mt:=qI h.np
 clear h h1
 go_enter func193,ntmps193
 go_wp2_with fail
 go_end0
 have h2:=zg (i:=1) (v:=.bool true) (d:=#[.slice a l.length c,.bool true]) H1.o rfl
 have h3:=zg (i:=0) (v:=.slice none 0 0) (d:=#[.slice none 0 0,.bool true]) h2 rfl
 exact⟨rfl,⟨Mt.o,none,0,h3,yV _ _,fun g hg=>by simp [zW] at hg⟩,((zb.refl [p] w).setCell (.inl Wz) _).setCell (.inl Wz) _⟩
theorem rdD_end {N:Nat}{w w2:World}{p n c cc:Nat}{a ta a2:Option Addr}{c2:Nat}{l:List UInt8}(hnp:N≤p) (h1:w.heap[p]? = some (.cells #[.slice a l.length c,.bool false] 209 (0,0))) (ht:zp w (.slice ta (l.length-n) cc) (l.drop n)) (hg:∀ g,zW (.slice ta (l.length-n) cc)=some g→g<N) (hnb:qe w w2 (.slice a2 n c2) (l.take n)) (hk:zb [] w w2) :
  zp (w2.setCell ⟨p,0,none⟩ (.slice ta (l.length-n) cc)) (.slice a2 n c2) (l.take n)∧(∀ g,zW (.slice a2 n c2)=some g→w.heap.size≤g)∧RdD N (w2.setCell ⟨p,0,none⟩ (.slice ta (l.length-n) cc)) p (l.drop n) false∧zb [p] w (w2.setCell ⟨p,0,none⟩ (.slice ta (l.length-n) cc)):=by
 have hst:zb [p] w2 (w2.setCell ⟨p,0,none⟩ (.slice ta (l.length-n) cc)):=Wd.setCell (.inl Wz) _
 have hp2:=lt_of_block h1
 have hdl:(l.drop n).length=l.length-n:=List.length_drop
 refine⟨hnb.1.kept hst (fun g hg hx=>?_),fun g hg=>(hnb.2 g hg).1,⟨hnp,ta,cc,?_,?_,?_⟩,(hk.mono Wz).trans' hst⟩
 ·have:=(hnb.2 g hg).1
  simp at hx
  omega
 ·rw [hdl];exact zg (hk.heap h1 Wz) rfl
 ·rw [hdl]
  exact (ht.kept0 hk).kept hst (fun g h hx=>by have:=hg g h;simp at hx;omega)
 ·intro g h
  rw [hdl] at h
  exact hg g h
theorem Zf {N:Nat}{w:World}{p:Nat}{l:List UInt8}{bad:Bool}(h:RdD N w p l bad) (hbl:bad=true→l=[]) (n:Nat) (h0:0<n) (hn:n≤1000000) (hll:l.length≤1000000) :
  Calls Tryz.prog 157 #[.pointer (some ⟨p,0,none⟩),.int .i64 n] w fun e w'=>(∃ a c,e = .returned (.slice a (rdB n l bad).1.length c)∧zp w' (.slice a (rdB n l bad).1.length c) (rdB n l bad).1∧(∀ g,zW (.slice a (rdB n l bad).1.length c)=some g→w.heap.size≤g))∧RdD N w' p (rdB n l bad).2.1 (rdB n l bad).2.2∧zb [p] w w':=by
 have CS:=qI (Y7 h)
 obtain⟨a,c,h1,h2,h3⟩:=h.val
 have hnI:(n:Int)≤1000000:=Ws
 have hlI:(l.length:Int)≤1000000:=Ws
 have c0:=za (o:=0) h1 rfl
 by_cases hok:n≤l.length
 ·obtain rfl:bad=false:=by
   cases bad with
   | false=>rfl
   | true=>rw [hbl rfl] at hok;simp at hok;omega
  have Gy:Hid (rdB n l false=(l.take n,l.drop n,false)):=qI (by unfold rdB;rw [if_pos ⟨hok,rfl⟩])
  have Gn:Hid ((l.take n).length=n):=qI (by rw [List.length_take];omega)
  have hnlI:¬ ((l.length:Int)<n):=Ws
  obtain⟨ua,uc,hu,hub,-⟩:=h2.upto xV n hok
  obtain⟨ta,tc,ht,htb,htg⟩:=h2.from xV n hok
  have HE:=qI (fun w2 a2 c2 hnb hk=>rdD_end (w2:=w2) (a2:=a2) (c2:=c2) h.np h1 htb (fun g hg=>h3 g (htg g hg)) hnb hk)
  have Gk:=qI (vO (t:=5) (size:=1) (base:=w.heap.size) w rfl (Nat.le_refl _))
  have Jn:Hid (zb [] w (w.alloc (.cells #[] 5))):=qI (Wd.alloc _)
  have Mu:Hid (Slc (w.alloc (.cells #[] 5)) 1 (.slice ua n uc) n ((l.take n).map bv)):=qI (by
   have h9:=hub.kept0 Jn.o
   unfold zp at h9
   rw [Gn.o] at h9
   exact h9)
  have c1:=Jn.o.cell c0 Wz
  have H1:=qI h1
  have HN:=qI hn
  clear h h1 h2 h3 hub htb htg hbl h0 hll CS
  generalize l.length=L at H1 HE c0 c1 hok hnlI hlI hu ht
  clear hok
  go_enter func157,ntmps157
  go_upto_region 5 with (at_builtin;refine zk xV (v:=.slice (some ⟨w.heap.size,0,none⟩) 0 0) (n:=0) Gk.o Mu.o (yL _) (by simp only [maxLen];have:=HN.o;omega) (by have:=HN.o;omega) Wz rfl _ _ rfl rfl rfl ?_;intro v2 w2 hown hk2 _ hb2;rw [Nat.zero_add,List.nil_append] at hown;obtain⟨a2,c2,rfl,-,-⟩:=(Slc.of_row hown).form;have Gz:=qI hown;have Gf:Hid (zb [] w w2):=qI (Jn.o.trans hk2 (by intro i hi;simp [Value.ownBlock] at hi;subst hi;exact .inr (Nat.le_refl _)));have hb3:=Gf.o.heap H1.o Wz;have u0:=za (o:=0) hb3 rfl;have uf:=zh (o:=0) hb3;clear hown hk2 hb2 hb3)
  clear c0 c1
  go_wp2_with fail
  go_ret
  have h9:=HE.o w2 a2 c2 (qx Gz.o) Gf.o
  rw [Gy.o]
  dsimp only
  rw [Gn.o]
  exact⟨⟨_,_,rfl,h9.1,h9.2.1⟩,h9.2.2⟩
 ·have Gy:Hid (rdB n l bad=([],[],true)):=qI (by unfold rdB;rw [if_neg (fun h=>hok h.1)])
  have hnlJ:(l.length:Int)<n:=Ws
  clear h1 h2 h3 h hok hbl hll
  generalize l.length=L at hnlJ c0 hlI
  go_enter func157,ntmps157
  go_wp2_with (go_at_call 193;refine CS.o.mono ?_;rintro e w2 ⟨rfl,hr2,hk2⟩;have Jo:=qI hr2;have Gf:=qI hk2;clear hr2 hk2)
  go_ret
  rw [Gy.o]
  exact⟨⟨none,0,rfl,yV _ _,fun g hg=>by simp [zW] at hg⟩,Jo.o,Gf.o⟩
theorem refRdInt_any {N:Nat}{w:World}{p:Nat}{l:List UInt8}(h:RdD N w p l false) (hll:l.length≤1000000) :
  Calls Tryz.prog 156 #[.pointer (some ⟨p,0,none⟩),.int .i64 4] w fun e w'=>e = .returned (.int .i64 (rdN l).1)∧RdD N w' p (rdN l).2.1 (rdN l).2.2∧zb [p] w w':=by
 have CS:=qI (Y7 h)
 obtain⟨a,c,h1,h2,h3⟩:=h.val
 have c0:=za (o:=0) h1 rfl
 have hlm:(l.length:Int)≤1000000:=Ws
 rcases Nat.lt_or_ge l.length 4 with h4 | h4
 ·have Jp:Hid (rdN l=(0,[],true)):=qI (by unfold rdN;rw [if_neg Ws])
  have h4I:(l.length:Int)<4:=Ws
  clear h h1 h2 h3 hll h4
  generalize l.length=L at c0 h4I hlm
  go_enter func156,ntmps156
  go_wp2_with (go_at_call 193;refine CS.o.mono ?_;rintro e w2 ⟨rfl,hr2,hk2⟩;have Jo:=qI hr2;have Gf:=qI hk2;clear hr2 hk2)
  go_ret
  rw [Jp.o]
  exact⟨rfl,Jo.o,Gf.o⟩
 ·have Jp:Hid (rdN l=(jG (l.take 4),l.drop 4,false)):=qI (by unfold rdN;rw [if_pos Ws])
  have Gn:Hid ((l.take 4).length=4):=qI (by rw [List.length_take];omega)
  obtain⟨g,o,rfl,-,hrow⟩:=xy (size:=1) h2 Ws
  obtain⟨ta,tc,ht,htb,htg⟩:=h2.from xV 4 h4
  have HE:Hid (∀ w2,w2=w.setCell ⟨p,0,none⟩ (.slice ta (l.length-4) tc)→RdD N w2 p (l.drop 4) false∧zb [p] w w2):=qI (by
   rintro w2 rfl
   have hst:zb [p] w (w.setCell ⟨p,0,none⟩ (.slice ta (l.length-4) tc)):=Wd.setCell (.inl Wz) _
   have hdl:(l.drop 4).length=l.length-4:=List.length_drop
   refine⟨⟨h.np,ta,tc,by rw [hdl];exact zg h1 rfl,?_,?_⟩,hst⟩
   ·rw [hdl];exact htb.kept hst (fun g hg hx=>by have:=h3 g (htg g hg);have:=h.np;simp at hx;omega)
   ·intro g hg
    rw [hdl] at hg
    exact h3 g (htg g hg))
  have Gj:Hid (∀ k (hk:k<4),w.cell? ⟨g,o+k,none⟩=some (bv ((l.take 4)[k]'(by rw [Gn.o];exact hk)))):=qI (fun k hk=>by
   refine hrow.cells k _ ?_
   rw [List.getElem?_map,List.getElem_take,List.getElem?_eq_getElem Ws];rfl)
  have h4I:(4:Int)≤(l.length:Int):=Ws
  have hf:=zh (o:=0) h1
  clear h h1 h2 h3 hll h4 hrow htb htg CS
  generalize hL:l.length=L at c0 HE h4I hlm ht
  clear hL
  have ht:∀ W,(Instr.slice 53 (.slice (some ⟨g,o,none⟩) L c) (some (.int .i64 4)) none none).run Tryz.prog W = .ok (.slice ta (L-4) tc) W:=ht
  go_enter func156,ntmps156
  go_wp2_with fail
  go_loopw [5,6] (fun nv i wr=>∃ k:Nat,nv = .int .i64 (jG ((l.take 4).take k))∧i = .int .i64 k∧k≤4∧wr=w) (fun _ i _=>4-(intOf i).toNat)
  case atStart=>exact⟨0,rfl,rfl,Nat.zero_le _,rfl⟩
  case round=>
   obtain⟨k,rfl,rfl,hk,rfl⟩:=hrel
   rcases Nat.lt_or_ge k 4 with h4 | h4
   ·have hkI:(k:Int)<4:=by omega
    have hkL:(k:Int)<L:=Ws
    have hkl:k<(l.take 4).length:=by rw [Gn.o];exact h4
    have c1:=Gj.o k h4
    have Ge:Hid (jG ((l.take 4).take (k+1))=jG ((l.take 4).take k)*256+(l.take 4)[k].toNat):=qI (by
     rw [List.take_succ_eq_append_getElem hkl,numB_snoc])
    have hlt:jG ((l.take 4).take k)<16777216:=by
     have h1:=Kl ((l.take 4).take k)
     rw [List.length_take,Nat.min_eq_left Ws] at h1
     have h2:256 ^ k≤256 ^ 3:=Nat.pow_le_pow_right Wo Ws
     have h3:(256:Nat) ^ 3=16777216:=Wo
     omega
    have hcb:=UInt8.toNat_lt (l.take 4)[k]
    unfold bv at c1
    have HZ:=qI h4
    generalize (l.take 4)[k].toNat=x at c1 Ge hcb
    generalize jG ((l.take 4).take k)=y at Ge hlt
    have hltI:(y:Int)<16777216:=Ws
    clear hkl h4
    go_wp2_with fail
    case roundEnd=>exact⟨⟨k+1,by rw [Ge.o];congr 1;push_cast;omega,by go_num,by have:=HZ.o;omega,trivial⟩,by have:=HZ.o;simp [intOf];omega⟩
   ·obtain rfl:k=4:=by omega
    have Mv:Hid ((l.take 4).take 4=l.take 4):=qI (List.take_of_length_le (by rw [Gn.o];decide))
    rw [Mv.o]
    generalize hnb:jG (l.take 4)=nb
    have Mw:=qI hnb
    clear hnb
    go_wp2_with fail
    go_ret
    rw [Jp.o]
    exact⟨by rw [Mw.o];rfl,(HE.o _ rfl).1,(HE.o _ rfl).2⟩
def ZO (n j:Nat):List UInt8:=(List.range 4).map (fun i=>if 4-j≤i then putB n 4 i else 0)
theorem downM_len (n j:Nat):(ZO n j).length=4:=by simp [ZO]
theorem downM_all (n:Nat):ZO n 4=qP n 4:=rfl
theorem downM_set (n j m:Nat) (hj:j<4) (hm:m=n/256 ^ j):((ZO n j).map bv).set (3-j) (.int .u8 ((m:Int)%256))=(ZO n (j+1)).map bv:=by
 have hb:Value.int .u8 ((m:Int)%256)=bv (putB n 4 (3-j)):=by
  rw [putB,Zh,hm,show 4-1-(3-j)=j by omega,Nat.pow_mul]
 rw [hb]
 apply List.ext_getElem
 ·simp [ZO]
 ·intro i h1 h2
  rw [List.getElem_set]
  by_cases e:3-j=i
  ·rw [if_pos e]
   simp only [ZO,List.getElem_map,List.getElem_range]
   rw [if_pos Ws,e]
  ·rw [if_neg e]
   simp only [ZO,List.getElem_map,List.getElem_range]
   congr 1
   have hi:i<4:=by simpa [ZO] using h2
   by_cases h:4-j≤i
   ·rw [if_pos h,if_pos Ws]
   ·rw [if_neg h,if_neg Ws]
theorem refPut4_any (n:Nat) (w:World) (hn:n<4294967296):Calls Tryz.prog 86 #[.int .i64 n,.int .i64 4] w fun e w'=>∃ a c,e = .returned (.tuple #[.slice a 4 c,.bool true])∧w'.ownsRow w.heap.size 5 1 (.slice a 4 c) 4 ((qP n 4).map bv)∧zb [] w w':=by
 have hmk:(Instr.makeSlice 53 (.int .i64 4) (.int .i64 4)).run Tryz.prog w = .ok (.slice (some ⟨w.heap.size,0,none⟩) 4 4) (w.alloc (.cells (madeCells #[.int .u8 0] 4) 5)):=Z2 w 4 Wo
 have hnn:=qI hn
 have Ga:Hid (∀ W1,W1=w.alloc (.cells (madeCells #[.int .u8 0] 4) 5)→W1.ownsRow w.heap.size 5 1 (.slice (some ⟨w.heap.size,0,none⟩) 4 4) 4 ((ZO n 0).map bv)∧zb [] w W1):=qI (by
  rintro W1 rfl
  exact⟨ZY w w.heap.size 4 Wo (Nat.le_refl _),(zb.refl _ w).alloc _⟩)
 clear hn
 go_enter func86,ntmps86
 go_upto_region 4 with fail
 obtain⟨W1,Jz⟩:∃ W1,Hid (W1=w.alloc (.cells (madeCells #[.int .u8 0] 4) 5)):=⟨_,qI rfl⟩
 obtain⟨ho1,hk1⟩:=Ga.o W1 Jz.o
 have Jf:=qI ho1
 have Gb:=qI hk1
 clear ho1 hk1 hmk
 rw [← Jz.o]
 go_wp2_with fail
 go_loopw [0,7] (fun nv i wr=>∃ j m:Nat,j≤4∧i = .int .i64 (3-(j:Int))∧nv = .int .i64 m∧Hid (m=n/256 ^ j)∧wr.ownsRow w.heap.size 5 1 (.slice (some ⟨w.heap.size,0,none⟩) 4 4) 4 ((ZO n j).map bv)∧zb [] w wr) (fun _ i _=>(intOf i+1).toNat)
 case atStart=>exact⟨0,n,Nat.zero_le _,rfl,rfl,qI Wz,Jf.o,Gb.o⟩
 case round=>
  obtain⟨j,m,hj,rfl,rfl,HM,hown,hkr⟩:=hrel
  have Hown:=qI hown
  have HK:=qI hkr
  have hmI:(m:Int)≤9223372036854775807:=by have:=HM.o;have:=Nat.div_le_self n (256 ^ j);have:=hnn.o;omega
  by_cases h4:j<4
  ·have hi:(0:Int)≤3-j:=by omega
   have hi2:(3:Int)-j<4:=Ws
   have hc:=hown.cellAt (3-j) Ws
   have hf:=hown.frozenAt (3-j)
   obtain⟨cv,hcv⟩:∃ cv,wr.cell? ⟨w.heap.size,3 - j,none⟩=some cv:=⟨_,hc.trans (List.getElem?_eq_getElem (by rw [List.length_map,downM_len];omega))⟩
   have ht:((3:Int)-j).toNat=3-j:=Ws
   have HT:=qI ht
   have H8:=qI h4
   clear hc hown hkr ht
   go_wp2_with fail
   have hst:=(Hown.o.stored (3-j) (.int .u8 ((m:Int)%256))).1
   rw [downM_set n j m h4 HM.o] at hst
   refine⟨⟨j+1,m/256,Ws,?_,?_,qI ?_,hst,HK.o.setCell Wz _⟩,by simp [intOf];omega⟩
   ·rw [show (3:Int)-((j+1:Nat):Int)=3-j-1 by omega]
   ·rw [Int.natCast_ediv];rfl
   ·rw [HM.o,Nat.div_div_eq_div_mul,Nat.pow_succ]
  ·obtain rfl:j=4:=by omega
   have h0:m=0:=by rw [HM.o];exact Nat.div_eq_of_lt (by have:=hnn.o;omega)
   clear hown hkr
   subst h0
   go_wp2_with fail
   go_ret2
   have h9:=Hown.o
   rw [downM_all] at h9
   exact⟨_,_,rfl,h9,HK.o⟩
theorem Q2 (s:ByteArray) (hs:s.size≤1048576) (w:World):Calls Tryz.prog 219 #[.string s] w fun e w'=>(∃ a c,e = .returned (.slice a (xz s.data.toList).length c)∧w'.ownsRow w.heap.size 5 1 (.slice a (xz s.data.toList).length c) (xz s.data.toList).length ((xz s.data.toList).map bv))∧zb [] w w':=by
 have CP:=qI (refPut4_any s.size w Ws)
 have HL:Hid (s.data.toList.length=s.size):=qI Wz
 have Gn:Hid ((xz s.data.toList).length=4+s.size):=qI (by rw [Qi,HL.o])
 have Mx:Hid (((qP s.size 4).map bv++Lib.strCells s)=(xz s.data.toList).map bv):=qI (by rw [xz,List.map_append,HL.o];rfl)
 obtain⟨i0,hi,hz0,hz1,hz2⟩:=info_parts xV.info
 have HI:=qI hi
 have HZ:=qI (And.intro hz0 (And.intro hz1 hz2))
 have hsI:(s.size:Int)≤1048576:=Ws
 have Ma:=qI hs
 generalize hN:(xz s.data.toList).length=N
 have HN:=qI hN
 clear hi hz0 hz1 hz2 hs hN
 go_enter func219,ntmps219
 go_wp2_with first
  | (go_at_call 86;refine CP.o.mono ?_;rintro e w1 ⟨a1,c1,rfl,hown1,hk1⟩;have Jf:=qI hown1;have Gb:=qI hk1;clear hown1 hk1)
  | (at_builtin;refine Lib.wpList_append_own_string _ rfl _ _ 53 9 rfl w.heap.size 5 i0 underlying53 underlying9 HI.o HZ.o.1 HZ.o.2.1 HZ.o.2.2 (.slice a1 4 c1) 4 _ rfl Jf.o s rfl (by have:=Ma.o;simp only [maxLen];omega) (by have:=Ma.o;omega) Gb.o.size ?_;intro v2 w2 hown2 hg2 _;rw [Mx.o,← Gn.o,HN.o] at hown2;obtain⟨a2,c2,rfl,-,-⟩:=(Slc.of_row hown2).form;have Gz:=qI hown2;have My:=qI hg2;clear hown2 hg2)
 go_ret
 exact⟨⟨_,_,rfl,Gz.o⟩,Gb.o.grown My.o (fun k hk=>.inr (Jf.o.lt k hk).1)⟩
attribute [local go_sem] Oper.semAt_some
def YY (t:List UInt8) (ls:List (List UInt8)) (k:Nat):List UInt8:=(((t::ls).take (k+1)).map xz).flatten
theorem accT_zero (t:List UInt8) (ls:List (List UInt8)):YY t ls 0=xz t:=by simp [YY]
theorem accT_succ (t:List UInt8) (ls:List (List UInt8)) {k:Nat}(h:k<ls.length):YY t ls (k+1)=YY t ls k++xz ls[k]:=by
 unfold YY
 rw [List.take_succ_eq_append_getElem (show k+1<(t::ls).length by simpa using h),List.map_append,List.flatten_append]
 simp
theorem accT_all (t:List UInt8) (ls:List (List UInt8)):YY t ls ls.length=((t::ls).map xz).flatten:=by simp [YY]
theorem accT_le {t:List UInt8}{ls:List (List UInt8)}(ht:t.length≤1000) (hb:∀ l,l∈ls→l.length≤1048576) (hn:ls.length≤16) (k:Nat):(YY t ls k).length≤18000000:=by
 have h1:=Zl ((t::ls).take (k+1)) (fun l hl=>by
  rcases List.mem_cons.1 (List.mem_of_mem_take hl) with rfl | h1
  ·omega
  ·exact hb l h1)
 have h2:((t::ls).take (k+1)).length≤17:=by rw [List.length_take,List.length_cons];omega
 have h3:1048580*((t::ls).take (k+1)).length≤1048580*17:=Nat.mul_le_mul_left _ h2
 unfold YY
 omega
theorem YB (tag:ByteArray) (w:World) (a:Option Addr) (cap:Nat) (vals:List Value) (ls:List (List UInt8)) (hsl:Slc w 1 (.slice a vals.length cap) vals.length vals) (hall:zH (zp w) vals ls) (hb:∀ l,l∈ls→l.length≤1048576) (ht:tag.size≤1000) (hn:vals.length≤16) :
  CL w 210 #[.string tag,.slice a vals.length cap] (.agg ((vF tag.data.toList ls).map bv).toArray):=by
 obtain⟨W1,Ga⟩:∃ W1,Hid (W1=w.alloc (.cells z32 45)):=⟨_,qI rfl⟩
 have Gb:Hid (zb [] w W1):=qI (kA1 Ga.o)
 have Gs:Hid (zR W1 w.heap.size (xe zu 0)):=qI (by rw [Ga.o];exact zd rfl)
 have htl:tag.data.toList.length=tag.size:=Wz
 have CT:Hid (∀ w2,Calls Tryz.prog 219 #[.string tag] w2 fun e w'=>(∃ a c,e = .returned (.slice a (xz tag.data.toList).length c)∧w'.ownsRow w2.heap.size 5 1 (.slice a (xz tag.data.toList).length c) (xz tag.data.toList).length ((xz tag.data.toList).map bv))∧zb [] w2 w'):=qI (fun w2=>Q2 tag Ws w2)
 obtain⟨N,HN⟩:∃ N,Hid (N=vals.length):=⟨_,qI rfl⟩
 have Mb:Hid (ls.length=N):=qI (by rw [HN.o];exact hall.1.symm)
 have Jq:Hid (∀ k,(YY tag.data.toList ls k).length≤18000000):=qI (accT_le Ws hb (by have:=hall.1;omega))
 have Gq:Hid (vF tag.data.toList ls=zV (YY tag.data.toList ls N)):=qI (by rw [← Mb.o,accT_all];rfl)
 have Jr:=qI (accT_zero tag.data.toList ls)
 have Mc:Hid (∀ k (h:k<ls.length),YY tag.data.toList ls (k+1)=YY tag.data.toList ls k++xz ls[k]):=qI (fun k h=>accT_succ _ _ h)
 have Jg:=qI hsl
 have Js:=qI hall
 have HB:=qI hb
 have hnI:(N:Int)≤16:=by have:=HN.o;omega
 rw [Gq.o]
 rw [← Jr.o] at CT
 rw [← HN.o] at Jg ⊢
 generalize YY tag.data.toList ls=acc at CT Jq Jr Mc Gq ⊢
 clear hsl hall hb ht hn htl Gq Jr
 have Ja:Hid ((zV (acc N)).length=32):=qI (yt _)
 go_enter func210,ntmps210
 go_upto_region 1 with fail
 refine yq Ga.o ?_
 go_wp2_with (go_at_call 219;refine (CT.o _).mono ?_;rintro e w2 ⟨⟨a1,c1,rfl,hown⟩,hk2⟩;have Gz:=qI hown;have Gf:=qI hk2;clear hown hk2)
 go_loopw [5,6] (fun t5 t6 wr=>∃ (k M:Nat) (a9:Option Addr) (c9:Nat),t6 = .int .i64 k∧t5 = .slice a9 M c9∧k≤N∧Hid (M=(acc k).length)∧Hid (wr.ownsRow W1.heap.size 5 1 (.slice a9 M c9) M ((acc k).map bv))∧Hid (zb [] W1 wr)) (fun _ t6 _=>N-(intOf t6).toNat)
 case atStart=>exact⟨0,_,a1,c1,rfl,rfl,Nat.zero_le _,qI rfl,Gz,Gf⟩
 case round=>
  obtain⟨k,M,a9,c9,rfl,rfl,hk,HM,Gk,Gd⟩:=hrel
  rcases Nat.lt_or_ge k N with hlt | hge
  ·have hkI:(k:Int)<N:=by omega
   have Gh:=qI hlt
   have hkv:k<vals.length:=by have:=HN.o;omega
   have hkl:k<ls.length:=by have:=Mb.o;omega
   have HX:Hid (zp wr vals[k] ls[k]):=qI ((Js.o.2 k _ _ (List.getElem?_eq_getElem hkv) (List.getElem?_eq_getElem hkl)).kept0 (Gb.o.then Gd.o))
   have Md:=qI (HB.o _ (List.getElem_mem hkl))
   have Ge:=qI (Mc.o k hkl)
   obtain⟨g,o,rfl,-,hr⟩:=xy Jg.o Ws
   have hc:wr.cell? ⟨g,o+k,none⟩=some vals[k]:=(Gb.o.then Gd.o).cell (hr.at hkv) Wz
   clear hr hk hlt
   generalize vals[k]=x at HX hc
   generalize ls[k]=l at HX Md Ge
   have hconv:=HX.o.toStr
   have CT2:Hid (∀ w2,Calls Tryz.prog 219 #[.string (yc l)] w2 fun e w'=>(∃ a c,e = .returned (.slice a (xz l).length c)∧w'.ownsRow w2.heap.size 5 1 (.slice a (xz l).length c) (xz l).length ((xz l).map bv))∧zb [] w2 w'):=qI (fun w2=>by
    have h1:=Q2 (yc l) (by rw [xv];exact Md.o) w2
    rw [show (yc l).data.toList=l by simp [yc]] at h1
    exact h1)
   have Jh:Hid (M+(xz l).length=(acc (k+1)).length∧(acc (k+1)).length≤18000000):=qI ⟨by rw [Ge.o,List.length_append,HM.o],Jq.o _⟩
   generalize hP:(xz l).length=P at CT2 Jh
   go_wp2_with first
    | (go_at_call 219;refine (CT2.o _).mono ?_;rintro e w5 ⟨⟨a5,c5,rfl,hown⟩,hk5⟩;have Mz:=qI hown;have Gc:=qI hk5;clear hown hk5)
    | (at_builtin;refine zk vI (v:=.slice a9 M c9) (n:=M) (zo Gk.o Gc.o Wz) (Slc.of_row Mz.o) (ones_bv _) (by have:=Jh.o;simp only [maxLen];omega) (by have:=Jh.o;omega) (by have:=Gd.o.size;have:=Gc.o.size;omega) rfl _ _ rfl rfl rfl ?_;intro v6 w6 hown hk6 _ _;obtain⟨a6,c6,rfl,-,-⟩:=(Slc.of_row hown).form;rw [← List.map_append,← Ge.o] at hown;have Jt:=qI hown;have Gl:Hid (zb [] W1 w6):=qI ((Gd.o.then Gc.o).trans hk6 (fun i hi=>.inr (Gk.o.lt i (Option.mem_toList.1 hi)).1));clear hown hk6)
   case roundEnd=>exact⟨⟨k+1,M+P,a6,c6,by go_num,rfl,Gh.o,qI Jh.o.1,Jt,Gl⟩,by have:=Gh.o;simp [intOf];omega⟩
  ·obtain rfl:k=N:=by omega
   have hge0:¬ ((k:Int)<k):=Ws
   have CO:Hid (Cz wr 47 #[.slice a9 M c9] (.agg ((zV (acc k)).map bv).toArray)):=qI (by
    have h1:=Slc.of_row Gk.o
    have h2:=YT wr a9 c9 (acc k) (by rw [← HM.o];unfold zp;rw [← HM.o];exact h1) (by have:=Jq.o k;omega)
    rw [← HM.o] at h2
    exact h2)
   have Ya:=qI (Gs.o.kept0 Gd.o)
   clear hge hk
   go_wp2_with first
    | (go_at_call 47;refine CO.o.mh ?_;rintro e w5 rfl Gc)
    | (refine zq Wk (.tmp 4) (.tmp 24) Wk (Ya.o.kept0 Gc.o) (zJ _ _) Ja.o Wk Wk ?_;intro w6 h6 hk6;have Yb:=qI h6;have Gl:=qI hk6;clear h6 hk6)
   have hres:=Yb.o.var Ja.o
   refine bodyPost_ret (v:=.agg ((zV (acc k)).map bv).toArray) (by simp only [results,results210];simp [hres,Sem.run_bind,asAddr,Act.put]) rfl ⟨rfl,?_⟩
   exact (Gb.o.then (Gd.o.then Gc.o)).trans Gl.o (by intro i hi;simp at hi;subst hi;exact .inr (Nat.le_refl _))
theorem QM (w:World) (l r:List UInt8) (hl:l.length=32) (hr:r.length=32) :
  CL w 196 #[.agg (l.map bv).toArray,.agg (r.map bv).toArray] (.agg ((yO l r).map bv).toArray):=by
 obtain⟨W1,Ga⟩:∃ W1,Hid (W1=((w.alloc (.cells (l.map bv).toArray 45)).alloc (.cells (r.map bv).toArray 45)).alloc (.cells z32 45)):=⟨_,qI rfl⟩
 have Gb:Hid (zb [] w W1):=qI (kA3 Ga.o)
 have Me:Hid (zR W1 w.heap.size l):=qI (by rw [Ga.o];exact (((zb.refl [] _).alloc _).alloc _).heap (zd rfl) Wz)
 have Ji:Hid (zR W1 (w.heap.size+1) r):=qI (by rw [Ga.o];exact ((zb.refl [] _).alloc _).heap (zd Wz) Wz)
 have Gs:Hid (zR W1 (w.heap.size+2) (xe zu 0)):=qI (by rw [Ga.o];exact zd Wz)
 have CT:Hid (∀ w2,zb [] W1 w2→∀ g9,Slc w2 1 (.slice (some ⟨g9,0,none⟩) 2 2) 2 [.slice (some ⟨w.heap.size,0,none⟩) 32 32,.slice (some ⟨w.heap.size+1,0,none⟩) 32 32]→Calls Tryz.prog 210 #[.string ⟨#[109,101,114,107,108,101,32,110,111,100,101]⟩,.slice (some ⟨g9,0,none⟩) 2 2] w2 fun e w'=>e = .returned (.agg ((yO l r).map bv).toArray)∧zb [] w2 w'):=qI (fun w2 hk g9 hsl=>by
  have hbl:zp w2 (.slice (some ⟨w.heap.size,0,none⟩) 32 32) l:=⟨Wz,.inr (.inr ⟨_,0,32,by rw [hl],Ws,Wo,⟨(Me.o.kept0 hk).range,(Me.o.kept0 hk).lt⟩⟩)⟩
  have hbr:zp w2 (.slice (some ⟨w.heap.size+1,0,none⟩) 32 32) r:=⟨Wz,.inr (.inr ⟨_,0,32,by rw [hr],Ws,Wo,⟨(Ji.o.kept0 hk).range,(Ji.o.kept0 hk).lt⟩⟩)⟩
  exact YB ⟨#[109,101,114,107,108,101,32,110,111,100,101]⟩ w2 (some ⟨g9,0,none⟩) 2 [.slice (some ⟨w.heap.size,0,none⟩) 32 32,.slice (some ⟨w.heap.size+1,0,none⟩) 32 32] [l,r] hsl (zH.cons (R:=zp _) hbl (zH.cons (R:=zp _) hbr (zH.nil _))) (fun x hx=>by
   simp only [List.mem_cons,List.not_mem_nil,or_false] at hx
   rcases hx with rfl | rfl <;> omega) Wo (Nat.le_of_ble_eq_true rfl))
 have Gi:Hid ((yO l r).length=32):=qI (yP l r)
 clear hl hr
 go_enter func196,ntmps196
 go_upto_region 1 with fail
 refine yq Ga.o ?_
 refine zK (n:=9) 4 [fI (.slice (some ⟨w.heap.size,0,none⟩) 32 32),
  fI (.slice (some ⟨w.heap.size+1,0,none⟩) 32 32),
  xD [.slice (some ⟨w.heap.size,0,none⟩) 32 32,.slice (some ⟨w.heap.size+1,0,none⟩) 32 32] 2 1,
  fI (.agg ((yO l r).map bv).toArray)] Wr rfl Wr (fun x=>yH) ?_ ?_
 ·refine⟨?_,?_,?_,?_,trivial⟩ <;> intro x w2 hkw b hd
  ·exact ze
  ·exact ze
  ·have d0:x 0=_:=hd 0 Wr
   have d1:x 1=_:=hd 1 Wr
   go_wp2_with fail
   exact⟨⟨w2.heap.size,rfl,Nat.le_refl _,Wz,zT w2 [.slice (some ⟨w.heap.size,0,none⟩) 32 32,.slice (some ⟨w.heap.size+1,0,none⟩) 32 32] 1 2 _ _ rfl rfl Wo⟩,Wd.alloc _⟩
  ·obtain⟨g9,d2,-,-,hsl⟩:=hd 2 Wr
   have CX:=CT.o w2 hkw g9 hsl
   clear hsl
   go_wp2_with (go_at_call 210;refine CX.mh ?_;rintro e w5 rfl Gc)
   exact⟨rfl,Gc.o⟩
 ·intro x w7 hkw b7 hd hwin
  have d3:x 3=_:=hd 3 Wo
  have Jb:=qI hkw
  have Yc:=qI (Gs.o.kept0 hkw)
  clear hd hwin hkw
  change wpList _ _ _ [_] _ _
  refine zq Wk (.tmp 4) (.tmp 8) Wk Yc.o (zJ _ _) Gi.o Wk d3 ?_
  intro w5 h5 hk5
  refine wpList_nil ?_
  go_wp2_with fail
  have hres:=h5.var Gi.o
  refine bodyPost_ret (v:=.agg ((yO l r).map bv).toArray) (by simp only [results,results196];simp [hres,Sem.run_bind,asAddr,Act.put]) rfl ⟨rfl,?_⟩
  exact (Gb.o.then Jb.o).trans hk5 (by intro i hi;simp at hi;subst hi;exact .inr Ws)
theorem refClimb_any {w:World}{x:List UInt8}(hx:x.length=32) (i:Nat) (hi:i≤1073741824) {way:List (List UInt8)}(h32:yC way) {a:Option Addr}{c n:Nat}(hn:way.length=n) (hn6:n≤6) (hs:Slc w 32 (.slice a n c) n (way.flatten.map bv)) :
  Calls Tryz.prog 160 #[.agg (x.map bv).toArray,.int .i64 i,.slice a n c] w fun e w'=>((i<2 ^ n∧e = .returned (.tuple #[.agg ((xQ x i way).map bv).toArray,.int .i64 0]))∨(¬ i<2 ^ n∧e = .returned (.tuple #[.agg z32,.int .i64 1])))∧zb [] w w':=by
 obtain⟨W1,Ga⟩:∃ W1,Hid (W1=(w.alloc (.cells (x.map bv).toArray 45)).alloc (.cells z32 45)):=⟨_,qI rfl⟩
 have Gb:Hid (zb [] w W1):=qI (kA2 Ga.o)
 have Gp:Hid (zR W1 w.heap.size x):=qI (by rw [Ga.o];exact ((zb.refl [] _).alloc _).heap (zd rfl) Wz)
 have Gs:Hid (zR W1 (w.heap.size+1) (xe zu 0)):=qI (by rw [Ga.o];exact zd Wz)
 have hz1:W1.heap.size=w.heap.size+2:=by rw [Ga.o];simp
 have Yd:=qI hz1
 have Jg:=qI (hs.kept0 Gb.o)
 have Ye:Hid (∀ g,zW (.slice a n c)=some g→g<w.heap.size):=qI (fun g h=>hs.lt h)
 have hiI:(i:Int)≤1073741824:=Ws
 have hnI:(n:Int)≤6:=Ws
 have H32:=qI h32
 have HN:=qI hn
 have hw2:wrap64 ((2:Int) ^ n)=(2:Int) ^ n:=by
  have:n=0∨n=1∨n=2∨n=3∨n=4∨n=5∨n=6:=Ws
  rcases this with rfl | rfl | rfl | rfl | rfl | rfl | rfl <;> decide +kernel
 have Ju:=qI hx
 clear h32 hn hs hx hz1
 have hq1:decide ((6:Int)<(n:Int))=false:=decide_eq_false Ws
 rcases Nat.lt_or_ge i (2 ^ n) with hlt | hlt
 rotate_left
 ·have hq2:decide ((2:Int) ^ n≤(i:Int))=true:=decide_eq_true (by exact_mod_cast hlt)
  go_enter func160,ntmps160
  go_upto_region 1 with fail
  refine yq Ga.o ?_
  go_wp2_with (refine zq Wk (.tmp 6) (.tmp 24) Wk (l:=List.replicate 32 0) Gs.o (zJ _ _) Wk Wk Wk ?_;intro w5 h5 hk5;have H5:=qI h5;have Gc:=qI hk5;clear h5 hk5)
  have hres:=H5.o.var Wk
  refine bodyPost_ret (v:=.tuple #[.agg z32,.int .i64 1]) (by simp only [results,results160];simp [hres,Sem.run_bind,asAddr,Act.put];rfl) rfl ⟨.inr ⟨Ws,rfl⟩,?_⟩
  exact Gb.o.trans Gc.o (by intro i hi;simp at hi;subst hi;exact .inr Ws)
 have hq2:decide ((2:Int) ^ n≤(i:Int))=false:=by
  have h1:(i:Int)<(2:Int) ^ n:=by exact_mod_cast hlt
  exact decide_eq_false (Int.not_le.2 h1)
 have Gh:=qI hlt
 have Yf:=qI hi
 clear hi hlt
 go_enter func160,ntmps160
 go_upto_region 1 with fail
 refine yq Ga.o ?_
 go_upto_region 4 with first
  | (refine zP Wk (.tmp 3) Wk Gp.o Ju.o Wk ?_)
  | (refine zq Wk (.tmp 8) (.tmp 25) Wk (g:=W1.heap.size) (l0:=xe zu 0) (zd rfl) (zJ _ _) Ju.o Wk Wk ?_;intro w4 h4 hk4;have Mf:=qI h4;have Gg:Hid (zb [] W1 w4):=qI (((zb.refl [] W1).alloc _).trans hk4 (by intro i hi;simp at hi;subst hi;exact .inr (Nat.le_refl _)));clear h4 hk4;simp only [Act.put])
 rw [Yd.o] at Mf ⊢
 have Jv:=qI (Jg.o.kept0 Gg.o)
 have Gw:=qI (Gs.o.kept0 Gg.o)
 clear hq1 hq2 hw2
 go_wp2_with fail
 go_loopw [1,9] (fun iv idx wr=>∃ (k j:Nat) (y:List UInt8),iv = .int .i64 j∧idx = .int .i64 k∧k≤n∧j≤1073741824∧y.length=32∧zR wr (w.heap.size+2) y∧xQ x i way=xQ y j (way.drop k)∧zb [w.heap.size+2] w4 wr) (fun _ idx _=>n-(intOf idx).toNat)
 case atStart=>exact⟨0,i,x,rfl,rfl,Nat.zero_le _,Yf.o,Ju.o,Mf.o,rfl,Wd⟩
 case round=>
  obtain⟨k,j,y,rfl,rfl,hk,hj,hy,hs32,hcl,hkr⟩:=hrel
  have HY:=qI hy
  have Jc:=qI hs32
  have Mg:=qI hcl
  have Gd:=qI hkr
  have HJ:=qI hj
  have hjI:(j:Int)≤1073741824:=Ws
  clear hy hs32 hcl hkr hj
  rcases Nat.lt_or_ge k n with hlt | hlt
  ·have hltI:(k:Int)<n:=by omega
   obtain⟨g,o,rfl,-,hrow⟩:=xy Jv.o Ws
   have hkw:k<way.length:=by rw [HN.o];exact hlt
   have Gy:Hid (w.heap.size+2≠g):=qI (fun e=>by have h1:=Ye.o g (ji Ws);omega)
   have Gr:Hid (wr.rangeAt g (o+k*32) (way[k].map bv)):=qI (Qk (hrow.kept Gd.o (by simp;exact fun e=>Gy.o e.symm)) H32.o k hkw)
   have Jd:Hid (way[k].length=32):=qI (H32.o _ (List.getElem_mem _))
   have Ge:Hid (xQ x i way=xQ (if j%2=0 then yO y way[k] else yO way[k] y) (j/2) (way.drop (k+1))):=qI (by
    rw [Mg.o,List.drop_eq_getElem_cons hkw];rfl)
   generalize way[k]=z at Gr Jd Ge
   have Gm:=qI hlt
   clear hkw hlt hrow
   have hj2:j%2=0∨j%2=1:=Ws
   rcases hj2 with h2 | h2
   ·rw [if_pos h2] at Ge
    have h2I:(j:Int)%2=0:=Ws
    clear h2
    have CN:Hid (∀ w4,Calls Tryz.prog 196 #[.agg (y.map bv).toArray,.agg (z.map bv).toArray] w4 fun e w'=>e = .returned (.agg ((yO y z).map bv).toArray)∧zb [] w4 w'):=qI (fun w4=>QM w4 y z HY.o Jd.o)
    have Gi:Hid ((yO y z).length=32):=qI (yP _ _)
    generalize yO y z=nd at CN Gi Ge
    go_upto_region 8 with fail
    refine zK (n:=50) 6 [fI (.agg (y.map bv).toArray),
     fI (.slice (some ⟨g,o,none⟩) n c),
     fI (.int .i64 k),
     fI (.pointer (some ⟨g,o+k*32,none⟩)),
     fI (.agg (z.map bv).toArray),
     fI (.agg (nd.map bv).toArray)] Wr rfl Wr (fun x=>yH) ?_ ?_
    ·refine⟨?_,?_,?_,?_,?_,?_,trivial⟩ <;> intro x w2 hkw b hd
     ·change wpList _ _ _ [_] _ _
      refine zP Wk (.tmp 8) Wk (Jc.o.kept0 hkw) HY.o Wk ?_
      exact⟨rfl,_,rfl,rfl,Wd⟩
     ·exact ze
     ·exact ze
     ·have d1:x 1=_:=hd 1 Wr
      have d2:x 2=_:=hd 2 Wr
      have hkN:=hltI
      exact ze
     ·have d3:x 3=_:=hd 3 Wr
      change wpList _ _ _ [_] _ _
      refine zS Wk _ rfl (g:=g) (of:=o+k*32) (fun j v hv=>hkw.cell (Gr.o j v hv) Wz) Jd.o d3 ?_
      exact⟨rfl,_,rfl,rfl,Wd⟩
     ·have d0:x 0=_:=hd 0 Wr
      have d4:x 4=_:=hd 4 Wr
      have CX:=CN.o w2
      go_wp2_with (go_at_call 196;refine CX.mh ?_;rintro e w5 rfl Gc)
      exact⟨rfl,Gc.o⟩
    ·intro x w7 hkw b7 hd hwin
     have d5:x 5=_:=hd 5 Wo
     have Jb:=qI hkw
     have Jw:=qI (Jc.o.kept0 hkw)
     clear hd hwin hkw
     change wpList _ _ _ [_] _ _
     refine zq Wk (.tmp 8) (.tmp 40) Wk Jw.o HY.o Gi.o Wk d5 ?_
     intro w6 h6 hk6
     have H6:=qI h6
     have Gl:=qI hk6
     clear h6 hk6
     refine wpList_nil ?_
     go_wp2_with fail
     case roundEnd=>exact⟨⟨k+1,j/2,nd,by go_num,by go_num,by have:=Gm.o;omega,by have:=HJ.o;omega,Gi.o,H6.o,Ge.o,(Gd.o.then Jb.o).trans' Gl.o⟩,by have:=Gm.o;simp [intOf];omega⟩
   ·rw [if_neg Ws] at Ge
    have h2I:(j:Int)%2=1:=Ws
    clear h2
    have CN:Hid (∀ w4,Calls Tryz.prog 196 #[.agg (z.map bv).toArray,.agg (y.map bv).toArray] w4 fun e w'=>e = .returned (.agg ((yO z y).map bv).toArray)∧zb [] w4 w'):=qI (fun w4=>QM w4 z y Jd.o HY.o)
    have Gi:Hid ((yO z y).length=32):=qI (yP _ _)
    generalize yO z y=nd at CN Gi Ge
    go_upto_region 9 with fail
    refine zK (n:=50) 6 [fI (.slice (some ⟨g,o,none⟩) n c),
     fI (.int .i64 k),
     fI (.pointer (some ⟨g,o+k*32,none⟩)),
     fI (.agg (z.map bv).toArray),
     fI (.agg (y.map bv).toArray),
     fI (.agg (nd.map bv).toArray)] Wr rfl Wr (fun x=>yH) ?_ ?_
    ·refine⟨?_,?_,?_,?_,?_,?_,trivial⟩ <;> intro x w2 hkw b hd
     ·exact ze
     ·exact ze
     ·have d0:x 0=_:=hd 0 Wr
      have d1:x 1=_:=hd 1 Wr
      have hkN:=hltI
      exact ze
     ·have d2:x 2=_:=hd 2 Wr
      change wpList _ _ _ [_] _ _
      refine zS Wk _ rfl (g:=g) (of:=o+k*32) (fun j v hv=>hkw.cell (Gr.o j v hv) Wz) Jd.o d2 ?_
      exact⟨rfl,_,rfl,rfl,Wd⟩
     ·change wpList _ _ _ [_] _ _
      refine zP Wk (.tmp 8) Wk (Jc.o.kept0 hkw) HY.o Wk ?_
      exact⟨rfl,_,rfl,rfl,Wd⟩
     ·have d3:x 3=_:=hd 3 Wr
      have d4:x 4=_:=hd 4 Wr
      have CX:=CN.o w2
      go_wp2_with (go_at_call 196;refine CX.mh ?_;rintro e w5 rfl Gc)
      exact⟨rfl,Gc.o⟩
    ·intro x w7 hkw b7 hd hwin
     have d5:x 5=_:=hd 5 Wo
     have Jb:=qI hkw
     have Jw:=qI (Jc.o.kept0 hkw)
     clear hd hwin hkw
     change wpList _ _ _ [_] _ _
     refine zq Wk (.tmp 8) (.tmp 46) Wk Jw.o HY.o Gi.o Wk d5 ?_
     intro w6 h6 hk6
     have H6:=qI h6
     have Gl:=qI hk6
     clear h6 hk6
     refine wpList_nil ?_
     go_wp2_with fail
     case roundEnd=>exact⟨⟨k+1,j/2,nd,by go_num,by go_num,by have:=Gm.o;omega,by have:=HJ.o;omega,Gi.o,H6.o,Ge.o,(Gd.o.then Jb.o).trans' Gl.o⟩,by have:=Gm.o;simp [intOf];omega⟩
  ·obtain rfl:k=n:=by omega
   have Yg:Hid (xQ x i way=y):=qI (by rw [Mg.o,← HN.o,List.drop_length];rfl)
   have Yh:=qI (Gw.o.kept Gd.o Wz)
   go_wp2_with first
    | (refine zP Wk (.tmp 8) Wk Jc.o HY.o Wk ?_)
    | (refine zq Wk (.tmp 6) (.tmp 49) Wk Yh.o (zJ _ _) HY.o Wk Wk ?_;intro w5 h5 hk5;have H5:=qI h5;have Gc:=qI hk5;clear h5 hk5)
   have hres:=H5.o.var HY.o
   refine bodyPost_ret (v:=.tuple #[.agg (y.map bv).toArray,.int .i64 0]) (by simp only [results,results160];simp [hres,Sem.run_bind,asAddr,Act.put]) rfl ⟨.inl ⟨Gh.o,by rw [Yg.o]⟩,?_⟩
   exact ((Gb.o.then Gg.o).trans Gd.o (by intro i hi;simp at hi;subst hi;exact .inr Ws)).trans Gc.o (by intro i hi;simp at hi;subst hi;exact .inr Ws)
theorem K5 (tag:ByteArray) (w:World) (vals:List Value) (ls:List (List UInt8)) (hall:zH (zp w) vals ls) (hb:∀ l,l∈ls→l.length≤1048576) (ht:tag.size≤1000) (hn:vals.length≤16) :
  Calls Tryz.prog 210 #[.string tag,.slice (some ⟨w.heap.size,0,none⟩) vals.length vals.length] (w.alloc (.cells vals.toArray 53)) fun e w'=>e = .returned (.agg ((vF tag.data.toList ls).map bv).toArray)∧zb [] w w':=by
 have hk:=(zb.refl [] w).alloc (.cells vals.toArray 53)
 refine (YB tag _ _ _ vals ls (zT w vals 1 vals.length _ _ rfl Wz (by simp only [maxLen];omega)) (hall.mono (fun _ _ _ h=>h.kept0 hk)) hb ht hn).mono ?_
 rintro e w' ⟨h1,h2⟩
 exact⟨h1,hk.then h2⟩
theorem refDigest_any {w:World}{a:Option Addr}{c:Nat}{m:List UInt8}(hb:zp w (.slice a m.length c) m) (hm:m.length≤1048576) :
  CL w 195 #[.slice a m.length c] (.agg ((vF Kh [m]).map bv).toArray):=by
 obtain⟨W1,Ga⟩:∃ W1,Hid (W1=w.alloc (.cells z32 45)):=⟨_,qI rfl⟩
 have Gb:Hid (zb [] w W1):=qI (kA1 Ga.o)
 have Ji:Hid (zR W1 w.heap.size (xe zu 0)):=qI (by rw [Ga.o];exact zd rfl)
 have CT:Hid (Calls Tryz.prog 210 #[.string ⟨#[108,97,109,112,111,114,116,32,107,101,121]⟩,.slice (some ⟨W1.heap.size,0,none⟩) 1 1] (W1.alloc (.cells #[.slice a m.length c] 53)) fun e w'=>e = .returned (.agg ((vF Kh [m]).map bv).toArray)∧zb [] W1 w'):=
  qI (K5 ⟨#[108,97,109,112,111,114,116,32,107,101,121]⟩ W1 [.slice a m.length c] [m] ((zH.nil _).cons (hb.kept0 Gb.o)) (by simpa using hm) Wo (Nat.succ_le_succ (Nat.zero_le _)))
 generalize hml:vF Kh [m]=ml at CT
 have Gt:Hid (ml.length=32):=qI (by rw [← hml,j0])
 clear hb hm hml
 go_enter func195,ntmps195
 go_upto_region 1 with fail
 refine yq Ga.o ?_
 go_wp2_with first
  | (go_at_call 210;refine CT.o.mono ?_;rintro e w4 ⟨rfl,hk4⟩;have Gg:=qI hk4;have Yi:=qI (Ji.o.kept0 hk4);clear hk4)
  | (refine zq Wk (.tmp 2) (.tmp 5) Wk Yi.o (zJ _ _) Gt.o Wk Wk ?_;intro w5 h5 hk5;have H5:=qI h5;have Gc:=qI hk5;clear h5 hk5)
 have hres:=H5.o.var Gt.o
 refine bodyPost_ret (v:=.agg (ml.map bv).toArray) (by simp only [results,results195];simp [hres,Sem.run_bind,asAddr,Act.put]) rfl ⟨rfl,?_⟩
 exact (Gb.o.then Gg.o).trans Gc.o (by intro i hi;simp at hi;subst hi;exact .inr (Nat.le_refl _))
theorem tyInts:yU Tryz.prog 237 3 1 8 (.int .i64 0):=⟨underlying237,Wr,rfl,Wo⟩
def sv (d:List UInt8) (k:Nat):Value:=.int .i64 (yT d k)
theorem sv_snoc (d:List UInt8) (k:Nat):(List.range (k+1)).map (sv d)=(List.range k).map (sv d)++[sv d k]:=by
 rw [List.range_succ,List.map_append];rfl
theorem refSides_any {w:World}{a:Option Addr}{c:Nat}{m:List UInt8}(hb:zp w (.slice a m.length c) m) (hm:m.length≤1048576) (N:Nat) (hN:N≤256) :
  Calls Tryz.prog 194 #[.slice a m.length c,.int .i64 N] w fun e w'=>(∃ q d,e = .returned (.slice q N d)∧Slc w' 1 (.slice q N d) N ((List.range N).map (sv (kh m))))∧zb [] w w':=by
 have CT:Hid (Calls Tryz.prog 210 #[.string ⟨#[108,97,109,112,111,114,116,32,109,101,115,115,97,103,101]⟩,.slice (some ⟨w.heap.size,0,none⟩) 1 1] (w.alloc (.cells #[.slice a m.length c] 53)) fun e w'=>e = .returned (.agg ((kh m).map bv).toArray)∧zb [] w w'):=
  qI (K5 ⟨#[108,97,109,112,111,114,116,32,109,101,115,115,97,103,101]⟩ w [.slice a m.length c] [m] ((zH.nil _).cons hb) (by simpa using hm) Wo (Nat.succ_le_succ (Nat.zero_le _)))
 have Gt:Hid ((kh m).length=32):=qI (Y4 m)
 have hNI:(N:Int)≤256:=Ws
 generalize kh m=d at CT Gt ⊢
 clear hb hm
 generalize m.length=mn at CT ⊢
 go_enter func194,ntmps194
 go_upto_region 2 with first
  | (go_at_call 210;refine CT.o.mh ?_;rintro e w2 rfl Gf)
  | (refine zq Wk (.tmp 5) (.tmp 10) Wk (g:=w2.heap.size) (l0:=xe zu 0) (zd rfl) (zJ _ _) Gt.o Wk Wk ?_;intro w4 h4 hk4;have Mh:=qI h4;have Gg:Hid (zb [] w w4):=qI (Gf.o.then (((zb.refl [] w2).alloc _).trans hk4 (by intro i hi;simp at hi;subst hi;exact .inr (Nat.le_refl _))));clear h4 hk4;simp only [Act.put])
 generalize w2.heap.size=pd at Mh ⊢
 go_wp2_with fail
 go_loopw [6,7] (fun sl idx wr=>∃ (k:Nat) (q:Option Addr) (z:Nat),idx = .int .i64 k∧sl = .slice q k z∧k≤N∧Hid (wr.ownsRow w4.heap.size 3 1 (.slice q k z) k ((List.range k).map (sv d)))∧Hid (zb [] w4 wr)) (fun _ idx _=>N-(intOf idx).toNat)
 case atStart=>exact⟨0,none,0,rfl,rfl,Nat.zero_le _,qI (World.ownsRow_nil _ _ _ _),qI Wd⟩
 case round=>
  obtain⟨k,q,z,rfl,rfl,hk,Gk,Gd⟩:=hrel
  rcases Nat.lt_or_ge k N with hlt | hge
  ·have hltI:(k:Int)<N:=by omega
   have hb:k<256:=Ws
   have hdl:k/8<d.length:=by have:=Gt.o;omega
   have c0:w4.cell? ⟨pd,k/8,none⟩=some (.int .u8 (d.getD (k/8) 0).toNat):=by
    refine za Mh.o ?_
    rw [List.getElem?_toArray,List.getElem?_map,List.getElem?_eq_getElem hdl,List.getD,List.getElem?_eq_getElem hdl]
    rfl
   have c1:=Gd.o.cell c0 Wz
   have hx:=UInt8.toNat_lt (d.getD (k/8) 0)
   have HS:Hid (yT d k=(d.getD (k/8) 0).toNat/2 ^ (7-k%8)%2):=qI rfl
   generalize (d.getD (k/8) 0).toNat=x at c1 HS hx
   have Gh:=qI hlt
   have Mi:=qI hb
   clear hdl c0 hk hlt
   go_wp2_with (at_builtin;refine zk tyInts (v:=.slice q k z) (n:=k) (m:=1) (zo Gk.o ((zb.refl [] wr).alloc _) Wz) (zT wr [_] 1 1 _ _ rfl rfl Wo) (by intro u hu;simp only [List.mem_singleton] at hu;subst hu;rfl) (by have:=Mi.o;simp only [maxLen];omega) (by have:=Mi.o;omega) (by have:=Gd.o.size;simp;omega) rfl _ _ rfl rfl rfl ?_;intro v6 w6 hown hk6 _ _;obtain⟨a6,c6,rfl,-,-⟩:=(Slc.of_row hown).form;have Jt:=qI hown;have Gl:Hid (zb [] w4 w6):=qI ((Gd.o.alloc _).trans hk6 (fun i hi=>.inr (Gk.o.lt i (Option.mem_toList.1 hi)).1));clear hown hk6)
   case roundEnd=>
    refine⟨⟨k+1,a6,c6,by go_num,rfl,Gh.o,qI ?_,Gl⟩,by have:=Gh.o;simp [intOf];omega⟩
    rw [sv_snoc]
    have h9:=Jt.o
    have hq:((x:Int)/2 ^ (7-k%8))=((x/2 ^ (7-k%8):Nat):Int):=Wz
    have hv:Value.int .i64 (((x:Int)/2 ^ (7-k%8)).tmod 2)=sv d k:=by
     unfold sv
     rw [HS.o,hq]
     congr 1
    rw [hv] at h9
    exact h9
  ·obtain rfl:k=N:=by omega
   have hge0:¬ ((k:Int)<k):=Ws
   clear hge hk
   go_wp2_with fail
   go_ret
   exact⟨⟨_,_,rfl,Slc.of_row Gk.o⟩,Gg.o.then Gd.o⟩
end Go.Proofs.YtibnfbglanpoiaaGreatDoor

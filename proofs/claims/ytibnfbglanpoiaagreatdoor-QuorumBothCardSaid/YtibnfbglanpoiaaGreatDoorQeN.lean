/- Parts of one proof, merged: XJG XJH. -/
import Derived.Test.YtibnfbglanpoiaaGreatDoorQeM
set_option linter.all false
set_option maxHeartbeats 12800000
set_option maxRecDepth 10000
namespace Go.Proofs.YtibnfbglanpoiaaGreatDoor
open Go.Proofs.Tryz
open Go.RowKit
def Ka:Nat→S8→List UInt8→S8×List UInt8
 | 0,s,l=>(s,l)
 | k+1,s,l=>if 64≤l.length then Ka k (xY s (l.take 64)) (l.drop 64) else (s,l)
def kW (s:S8) (l:List UInt8):S8×List UInt8:=Ka l.length s l
theorem Zy:∀ (k:Nat) (s:S8) (l:List UInt8),l.length≤k→Ka k s l=Ka l.length s l
 | 0,s,l,h=>by
  have:l=[]:=List.eq_nil_of_length_eq_zero Ws
  subst this
  rfl
 | k+1,s,l,h=>by
  by_cases h64:64≤l.length
  ·obtain⟨m,hm⟩:∃ m,l.length=m+1:=⟨l.length - 1,Ws⟩
   rw [hm]
   simp only [Ka]
   rw [if_pos h64,if_pos h64,Zy k _ _ (by simp;omega),Zy m _ _ (by simp;omega)]
  ·obtain h0 | ⟨m,hm⟩:l.length=0∨∃ m,l.length=m+1:=by
    cases hl:l.length with
    | zero=>exact .inl rfl
    | succ m=>exact .inr ⟨m,rfl⟩
   ·rw [h0]
    simp only [Ka]
    rw [if_neg h64]
   ·rw [hm]
    simp only [Ka]
    rw [if_neg h64,if_neg h64]
theorem bu (s:S8) (l:List UInt8) (h:64≤l.length):kW s l=kW (xY s (l.take 64)) (l.drop 64):=by
 unfold kW
 obtain⟨m,hm⟩:∃ m,l.length=m+1:=⟨l.length - 1,Ws⟩
 rw [hm]
 simp only [Ka]
 rw [if_pos h,Zy m _ _ (by simp;omega)]
theorem jN (s:S8) (l:List UInt8) (h:l.length<64):kW s l=(s,l):=by
 unfold kW
 cases hl:l.length with
 | zero=>rfl
 | succ m=>
  simp only [Ka]
  rw [if_neg Ws]
theorem Qh (s:S8) (l:List UInt8):(kW s l).2.length<64:=by
 unfold kW
 suffices h:∀ (k:Nat) (s:S8) (l:List UInt8),l.length≤k→(Ka k s l).2.length<64 from h _ s l (Nat.le_refl _)
 intro k
 induction k with
 | zero=>intro s l h;simp only [Ka];omega
 | succ k ih=>
  intro s l h
  simp only [Ka]
  split
  ·exact ih _ _ (by simp;omega)
  ·simp only;omega
def YW:Value→Nat
 | .slice _ n _=>n
 | _=>0
def S8.agg (s:S8):Value:=.agg #[.int .u32 s.a,.int .u32 s.b,.int .u32 s.c,.int .u32 s.d,.int .u32 s.e,.int .u32 s.f,.int .u32 s.g,.int .u32 s.h]
def putS (w:World) (p:Nat) (r:S8):World:=(((((((w.setCell ⟨p,0,none⟩ (.int .u32 r.a)).setCell ⟨p,1,none⟩ (.int .u32 r.b)).setCell ⟨p,2,none⟩ (.int .u32 r.c)).setCell ⟨p,3,none⟩ (.int .u32 r.d)).setCell ⟨p,4,none⟩ (.int .u32 r.e)).setCell ⟨p,5,none⟩ (.int .u32 r.f)).setCell ⟨p,6,none⟩ (.int .u32 r.g)).setCell ⟨p,7,none⟩ (.int .u32 r.h)
theorem putS_kept (w:World) (p:Nat) (r:S8):zb [p] w (putS w p r):=by
 unfold putS
 exact ((((((((zb.refl [p] w).setCell (.inl Wz) _).setCell (.inl Wz) _).setCell (.inl Wz) _).setCell (.inl Wz) _).setCell (.inl Wz) _).setCell (.inl Wz) _).setCell (.inl Wz) _).setCell (.inl Wz) _
theorem yI.putS {w:World}{p:Nat}{s:S8}{v:Value}{n:Int}(h:yI w p s v n) (r:S8):yI (putS w p r) p r v n:=by
 unfold yI hashC at h ⊢
 unfold Go.Proofs.YtibnfbglanpoiaaGreatDoor.putS
 have h1:=zg (i:=0) (v:=.int .u32 r.a) (d:=#[.int .u32 r.a,.int .u32 s.b,.int .u32 s.c,.int .u32 s.d,.int .u32 s.e,.int .u32 s.f,.int .u32 s.g,.int .u32 s.h,v,.int .i64 n]) h rfl
 have h2:=zg (i:=1) (v:=.int .u32 r.b) (d:=#[.int .u32 r.a,.int .u32 r.b,.int .u32 s.c,.int .u32 s.d,.int .u32 s.e,.int .u32 s.f,.int .u32 s.g,.int .u32 s.h,v,.int .i64 n]) h1 rfl
 have h3:=zg (i:=2) (v:=.int .u32 r.c) (d:=#[.int .u32 r.a,.int .u32 r.b,.int .u32 r.c,.int .u32 s.d,.int .u32 s.e,.int .u32 s.f,.int .u32 s.g,.int .u32 s.h,v,.int .i64 n]) h2 rfl
 have h4:=zg (i:=3) (v:=.int .u32 r.d) (d:=#[.int .u32 r.a,.int .u32 r.b,.int .u32 r.c,.int .u32 r.d,.int .u32 s.e,.int .u32 s.f,.int .u32 s.g,.int .u32 s.h,v,.int .i64 n]) h3 rfl
 have h5:=zg (i:=4) (v:=.int .u32 r.e) (d:=#[.int .u32 r.a,.int .u32 r.b,.int .u32 r.c,.int .u32 r.d,.int .u32 r.e,.int .u32 s.f,.int .u32 s.g,.int .u32 s.h,v,.int .i64 n]) h4 rfl
 have h6:=zg (i:=5) (v:=.int .u32 r.f) (d:=#[.int .u32 r.a,.int .u32 r.b,.int .u32 r.c,.int .u32 r.d,.int .u32 r.e,.int .u32 r.f,.int .u32 s.g,.int .u32 s.h,v,.int .i64 n]) h5 rfl
 have h7:=zg (i:=6) (v:=.int .u32 r.g) (d:=#[.int .u32 r.a,.int .u32 r.b,.int .u32 r.c,.int .u32 r.d,.int .u32 r.e,.int .u32 r.f,.int .u32 r.g,.int .u32 s.h,v,.int .i64 n]) h6 rfl
 have h8:=zg (i:=7) (v:=.int .u32 r.h) (d:=#[.int .u32 r.a,.int .u32 r.b,.int .u32 r.c,.int .u32 r.d,.int .u32 r.e,.int .u32 r.f,.int .u32 r.g,.int .u32 r.h,v,.int .i64 n]) h7 rfl
 exact h8
theorem yI.putV {w:World}{p:Nat}{s:S8}{v:Value}{n:Int}(h:yI w p s v n) (u:Value):yI (w.setCell ⟨p,8,none⟩ u) p s u n:=zg (d:=hashC s u n) h rfl
theorem yI.putN {w:World}{p:Nat}{s:S8}{v:Value}{n:Int}(h:yI w p s v n) (m:Int):yI (w.setCell ⟨p,9,none⟩ (.int .i64 m)) p s v m:=zg (d:=hashC s v m) h rfl
theorem xN.keptX {X:List Nat}{w w':World}(h:xN w) (k:zb X w w') (hx:0 ∉ X):xN w':=fun j v hv=>k.cell (h j v hv) hx
structure Wrote (w w':World) (p:Nat) (s:S8) (l:List UInt8) (n:Int):Prop where
 hash:∃ v',yI w' p s v' n∧zp w' v' l∧∀ g,zW v'=some g→w.heap.size≤g∧kind w' g=5+2
 kept:zb [p] w w'
 ks:xN w'
theorem zp.head {w:World}{a:Option Addr}{c:Nat}{l:List UInt8}(h:zp w (.slice a l.length c) l) (k:Nat) (hk:k≤l.length):zp w (.slice a k c) (l.take k):=by
 have e:(l.take k).length=k:=by rw [List.length_take];omega
 unfold zp
 rw [e]
 refine⟨by simp;omega,?_⟩
 rcases h.2 with ⟨h1,h0⟩ | ⟨h0,a',cap,h1,hm⟩ | ⟨g,o,cap,h1,h2,h3,h4⟩
 ·simp only [Value.slice.injEq] at h1
  obtain⟨rfl,-,rfl⟩:=h1
  obtain rfl:k=0:=Ws
  exact .inl ⟨rfl,rfl⟩
 ·simp only [Value.slice.injEq] at h1
  obtain⟨rfl,-,rfl⟩:=h1
  obtain rfl:k=0:=Ws
  exact .inr (.inl ⟨rfl,_,_,rfl,hm⟩)
 ·simp only [Value.slice.injEq] at h1
  obtain⟨rfl,-,rfl⟩:=h1
  refine .inr (.inr ⟨g,o,_,rfl,Ws,h3,?_⟩)
  rw [List.map_take]
  exact h4.take k
theorem zp.tail {w:World}{a:Option Addr}{c:Nat}{l:List UInt8}(h:zp w (.slice a l.length c) l) (k:Nat) (hk:k≤l.length):zp w (.slice (if c=k then a else a.map fun x=>⟨x.block,x.off+k,none⟩) (l.length-k) (c-k)) (l.drop k)∧∀ g,zW (.slice (if c=k then a else a.map fun x=>⟨x.block,x.off+k,none⟩) (l.length-k) (c-k))=some g→zW (.slice a l.length c)=some g:=by
 have e:(l.drop k).length=l.length-k:=List.length_drop
 unfold zp
 rw [e]
 rcases h.2 with ⟨h1,h0⟩ | ⟨h0,a',cap,h1,hm⟩ | ⟨g,o,cap,h1,h2,h3,h4⟩
 ·simp only [Value.slice.injEq] at h1
  obtain⟨rfl,-,rfl⟩:=h1
  obtain rfl:k=0:=Ws
  rw [h0]
  exact⟨⟨by simp [h0],.inl ⟨rfl,rfl⟩⟩,by simp [zW]⟩
 ·simp only [Value.slice.injEq] at h1
  obtain⟨rfl,-,rfl⟩:=h1
  obtain rfl:k=0:=Ws
  rw [h0]
  refine⟨⟨by simp [h0],?_⟩,by intro g hg;split at hg <;> simp [zW] at hg⟩
  split
  ·exact .inr (.inl ⟨rfl,_,_,rfl,Ws⟩)
  ·exact .inr (.inl ⟨rfl,_,_,rfl,Ws⟩)
 ·simp only [Value.slice.injEq] at h1
  obtain⟨rfl,-,rfl⟩:=h1
  refine⟨⟨Wz,.inr (.inr ?_)⟩,fun g' hg'=>?_⟩
  ·by_cases hc:c=k
   ·rw [if_pos hc]
    have e2:l.length-k=0:=Ws
    exact⟨g,o,_,rfl,Ws,Ws,⟨by
     have:(l.drop k).map bv=[]:=by rw [List.map_eq_nil_iff];exact List.eq_nil_of_length_eq_zero (by rw [e,e2])
     rw [this];simp,h4.lt⟩⟩
   ·rw [if_neg hc]
    refine⟨g,o+k,_,rfl,Ws,Ws,?_⟩
    rw [List.map_drop]
    exact h4.drop k
  ·obtain⟨hpos,hob⟩:=jo hg'
   have hgg:g'=g:=by split at hob <;> simpa [Value.ownBlock,eq_comm] using hob
   subst hgg
   exact ji Ws
theorem zp.capL {w:World}{a:Option Addr}{c n:Nat}{l:List UInt8}(h:zp w (.slice a n c) l):n≤c:=by
 obtain⟨a',c',h1,h2,-⟩:=h.form
 simp only [Value.slice.injEq] at h1
 obtain⟨-,h3,rfl⟩:=h1
 omega
structure WRel (W1:World) (p:Nat) (v:Value) (n:Int) (s0:S8) (l0:List UInt8) (x:Value) (wr:World):Prop where
 some_:∃ a c rest s',x = .slice a rest.length c∧zp wr (.slice a rest.length c) rest∧(∀ g,zW (.slice a rest.length c)=some g→g≠p)∧yI wr p s' v n∧kW s' rest=kW s0 l0∧rest.length≤l0.length
 kept:zb [p] W1 wr
theorem Qt (w:World) (p:Nat) (s:S8) (v b:Value) (l bs:List UInt8) (n:Int) (h:yI w p s v n) (hb:zp w v l) (hx:∀ g,zW v=some g→g≠p) (hbb:zp w b bs) (hxb:∀ g,zW b=some g→g≠p) (hll:l.length≤64) (hl:bs.length≤100000000000) (hn0:0≤n) (hn1:n≤100000000000) (hks:xN w) (hpk:p≠0) :
  Calls Tryz.prog 117 #[.pointer (some ⟨p,0,none⟩),b] w fun e w'=>e = .returned (.int .i64 bs.length)∧Wrote w w' p (kW s (l++bs)).1 (kW s (l++bs)).2 (n+bs.length):=by
 obtain⟨av,cv,rfl,-,-⟩:=hb.form
 obtain⟨ab,cb,rfl,-,-⟩:=hbb.form
 have HH:=qI h
 have HB:=qI hb
 have Ji:=qI hbb
 have HX:=qI hx
 have Jj:=qI hxb
 have Gn:=qI hks
 have Gq:=qI hpk
 have Jc:=qI hll
 have HL:=qI hl
 have hlI:(bs.length:Int)≤100000000000:=Ws
 have hllI:(l.length:Int)≤64:=Ws
 have x9:=h.c.2.2.2.2.2.2.2.2.2
 have y9:=zh (o:=9) h
 have Jk:=qI hn1
 have Jl:=qI hn0
 have hwr:wrap64 (n+bs.length)=n+bs.length:=by unfold wrap64;omega
 have Jd:Hid ((l++bs).length=l.length+bs.length):=qI List.length_append
 obtain⟨l9,Gr⟩:∃ l9,Hid (l9=l++bs):=⟨_,qI rfl⟩
 rw [← Gr.o] at Jd ⊢
 obtain⟨W1,Gc⟩:∃ W1,Hid (W1=w.setCell ⟨p,9,none⟩ (.int .i64 (n+bs.length))):=⟨_,qI rfl⟩
 have Ga:Hid (zb [p] w W1):=qI (by rw [Gc.o];exact (zb.refl _ w).setCell (.inl Wz) _)
 have Gp:Hid (yI W1 p s (.slice av l.length cv) (n+bs.length)):=qI (by rw [Gc.o];exact HH.o.putN _)
 have Jm:Hid (zp W1 (.slice av l.length cv) l):=qI (hb.kept Ga.o (fun g hg=>by simpa using hx g hg))
 have Gh:Hid (zp W1 (.slice ab bs.length cb) bs):=qI (hbb.kept Ga.o (fun g hg=>by simpa using hxb g hg))
 have Gi:Hid (xN W1):=qI (hks.keptX Ga.o (by simpa using Ne.symm hpk))
 have Jn:Hid (p<W1.heap.size):=qI Gp.o.lt
 have Gs:Hid (w.heap.size≤W1.heap.size):=qI Ga.o.size
 clear hb hx hbb hxb hks hpk hll hl hn1 hn0 HB Ji Gn Jk Jl
 go_enter func117,ntmps117
 go_upto_region 5 with fail
 rw [← Gc.o]
 clear x9 y9
 have x8:=Gp.o.c.2.2.2.2.2.2.2.2.1
 rcases Nat.eq_zero_or_pos l.length with h0 | h0
 case' inl=>
  have e0:Hid (l9=bs):=qI (by rw [Gr.o,List.eq_nil_of_length_eq_zero h0];rfl)
  have h0I:(l.length:Int)≤0:=Ws
  clear h0
  go_wp2_with fail
  have Je:Hid (WRel W1 p (.slice av l.length cv) (n+bs.length) s l9 (.slice ab bs.length cb) W1):=qI ⟨⟨_,_,bs,s,rfl,Gh.o,Jj.o,Gp.o,by rw [e0.o],by rw [e0.o];exact Nat.le_refl _⟩,Wd⟩
 case' inr=>
  have h0I:(0:Int)<l.length:=Ws
  have hrow:Row (W1.alloc (.cells #[.slice av l.length cv,.slice ab bs.length cb] 53)) W1.heap.size 0 [.slice av l.length cv,.slice ab bs.length cb]:=Qf W1 _ _
  have hka:=(zb.refl [] W1).alloc (.cells #[.slice av l.length cv,.slice ab bs.length cb] 53)
  have CC:=qI (concat2 W1.heap.size 2 _ _ l bs _ hrow (Jm.o.kept0 hka) (Gh.o.kept0 hka) (by have:=HL.o;have:=Jc.o;unfold lim;omega))
  rw [← Gr.o] at CC
  have Gt:=qI hka
  clear hrow hka
  go_wp2_with (go_at_call 152;refine CC.o.mono ?_;rintro e w2 ⟨v2,rfl,hnb,hk2⟩;obtain⟨a2,c2,rfl,-,-⟩:=hnb.1.form;have Gd:=qI hnb;have Gf:=qI hk2;clear hnb hk2 x8)
  have Je:Hid (WRel W1 p (.slice av l.length cv) (n+bs.length) s l9 (.slice a2 l9.length c2) w2):=qI ⟨⟨_,_,l9,s,rfl,Gd.o.1,fun g hg=>by
   have h1:=(Gd.o.2 g hg).1
   have h2:=Jn.o
   have h3:=Gt.o.size
   omega,(Gp.o.kept Gt.o Wz).kept Gf.o Wz,rfl,Nat.le_refl _⟩,((Gt.o.then Gf.o).mono Wz)⟩
 all_goals
  go_loopw [5] (fun x wr=>WRel W1 p (.slice av l.length cv) (n+bs.length) s l9 x wr) (fun x _=>YW x)
  case atStart=>exact Je.o
  case round=>
   obtain⟨⟨a,c,rest,s',rfl,hb,hx,hh,he,hlen⟩,hk⟩:=hrel
   have hlI:(rest.length:Int)≤200000000000:=by have:=Jd.o;have:=HL.o;have:=Jc.o;omega
   rcases Nat.lt_or_ge rest.length 64 with h64 | h64
   ·have h64I:(rest.length:Int)<64:=by omega
    have CL:=qI (vh _ rest wr hb (by unfold lim;omega))
    have Jo:=qI hh
    have Jp:=qI hk
    have HE:Hid (kW s' rest=(s',rest)):=qI (jN s' rest h64)
    have Jq:=qI he
    have Gu:=qI (Gi.o.keptX hk (by simpa using Ne.symm Gq.o))
    have Jr:=qI hh.lt
    have Gv:=qI hk.size
    clear hb hx hh he hk hlen h64 hlI
    go_wp2_with fail
    refine CL.o.mono ?_
    rintro e w3 ⟨v3,rfl,hnb,hk3⟩
    obtain⟨a3,c3,rfl,-,-⟩:=hnb.1.form
    have Gd:=qI hnb
    have Gb:=qI hk3
    have Gw:=qI (Jo.o.kept hk3 Wz)
    have y8:=Gw.o.c.2.2.2.2.2.2.2.2.1
    have z8:=zh (o:=8) Gw.o
    clear hnb hk3
    go_wp2_with fail
    go_ret
    have hp3:∀ g,zW (.slice a3 rest.length c3)=some g→g≠p:=fun g hg=>by
     have h1:=(Gd.o.2 g hg).1
     have h2:=Jr.o
     omega
    have hks:zb [p] w3 (w3.setCell ⟨p,8,none⟩ (.slice a3 rest.length c3)):=Wd.setCell (.inl Wz) _
    have ee:kW s l9=(s',rest):=by rw [← Jq.o,HE.o]
    refine⟨rfl,?_⟩
    rw [ee]
    exact⟨⟨_,Gw.o.putV _,Gd.o.1.kept hks (fun g hg=>by simpa using hp3 g hg),fun g hg=>⟨Nat.le_trans Gs.o (Nat.le_trans Gv.o (Gd.o.2 g hg).1),(hks.kind (Gd.o.1.lt hg) (by simpa using hp3 g hg)).trans (Gd.o.2 g hg).2⟩⟩,
     ((Ga.o.trans' Jp.o).then Gb.o).trans' hks,(Gu.o.kept0 Gb.o).keptX hks (by simpa using Ne.symm Gq.o)⟩
   ·have h64I:(64:Int)≤rest.length:=by omega
    have u2:=hb.head 64 h64
    have hcI:(rest.length:Int)≤c:=by have:=hb.capL;omega
    go_upto_region 8 with fail
    refine zK (n:=53) 10 [fI (.pointer (some ⟨p,0,none⟩)),fI (.pointer (some ⟨p,0,none⟩)),fI (.pointer (some ⟨p,0,none⟩)),fI (.pointer (some ⟨p,0,none⟩)),fI (S8.agg s'),fI (.slice a rest.length c),fI (.slice a 64 c),fI (S8.agg (xY s' (rest.take 64))),fI (.pointer (some ⟨p,0,none⟩)),fI (.pointer (some ⟨p,0,none⟩))] Wr rfl Wr (fun x=>yH) ?_ ?_
    ·refine⟨fun x w' hkw b hd=>?_,fun x w' hkw b hd=>?_,fun x w' hkw b hd=>?_,fun x w' hkw b hd=>?_,fun x w' hkw b hd=>?_,fun x w' hkw b hd=>?_,fun x w' hkw b hd=>?_,fun x w' hkw b hd=>?_,fun x w' hkw b hd=>?_,fun x w' hkw b hd=>?_,trivial⟩
     ·exact ze
     ·exact ze
     ·have d1:x 1=_:=hd 1 Wr
      exact ze
     ·have d1:x 2=_:=hd 2 Wr
      exact ze
     ·have d1:x 3=_:=hd 3 Wr
      obtain⟨y0,y1,y2,y3,y4,y5,y6,y7,-,-⟩:=(hh.kept hkw Wz).c
      exact ze
     ·exact ze
     ·have d1:x 5=_:=hd 5 Wr
      exact ze
     ·have d1:x 4 = .agg #[.int .u32 s'.a,.int .u32 s'.b,.int .u32 s'.c,.int .u32 s'.d,.int .u32 s'.e,.int .u32 s'.f,.int .u32 s'.g,.int .u32 s'.h]:=hd 4 Wr
      have d2:x 6=_:=hd 6 Wr
      have CB:=block_any w' s' a c (rest.take 64) (by rw [List.length_take];omega) (u2.kept0 hkw) ((Gi.o.keptX hk (by simpa using Ne.symm Gq.o)).kept0 hkw)
      go_wp2_with fail
      refine CB.mono ?_
      rintro e w3 ⟨rfl,hk3⟩
      have Gb:=qI hk3
      clear hk3
      go_wp2_with fail
      exact⟨rfl,Gb.o⟩
     ·have d1:x 0=_:=hd 0 Wr
      exact ze
     ·have d1:x 8=_:=hd 8 Wr
      exact ze
    ·intro x w' hkw b hd hwin
     have d1:x 9=_:=hd 9 Wo
     have d2:=hd 7 Wo
     obtain⟨r,hr⟩:∃ r,Hid (r=xY s' (rest.take 64)):=⟨_,qI rfl⟩
     rw [← hr.o] at d2
     have d2:x 7 = .agg #[.int .u32 r.a,.int .u32 r.b,.int .u32 r.c,.int .u32 r.d,.int .u32 r.e,.int .u32 r.f,.int .u32 r.g,.int .u32 r.h]:=d2
     have hh':=hh.kept hkw Wz
     obtain⟨y0,y1,y2,y3,y4,y5,y6,y7,-,-⟩:=hh'.c
     have z:∀ j,w'.frozen? ⟨p,j,none⟩=false:=fun j=>zh hh'
     change wpList _ _ _ [_] _ _
     go_wp2_with fail
     have hps:zb [p] w' (putS w' p r):=putS_kept _ _ _
     have ht:=hb.tail 64 h64
     refine⟨⟨⟨_,_,rest.drop 64,r,by rw [List.length_drop],by rw [List.length_drop];exact (ht.1.kept0 hkw).kept hps (fun g hg=>by simpa using hx g (ht.2 g hg)),fun g hg=>hx g (ht.2 g (by rw [List.length_drop] at hg;exact hg)),hh'.putS r,by rw [hr.o,← bu s' rest h64];exact he,by rw [List.length_drop];omega⟩,(hk.then hkw).trans' hps⟩,by simp only [YW];omega⟩
theorem Zp:∀ (k:Nat) (s:S8) (a b:List UInt8),a.length≤k→kW s (a++b)=kW (kW s a).1 ((kW s a).2++b)
 | 0,s,a,b,h=>by
  have:a=[]:=List.eq_nil_of_length_eq_zero Ws
  subst this
  rw [jN s [] Wz]
 | k+1,s,a,b,h=>by
  rcases Nat.lt_or_ge a.length 64 with h64 | h64
  ·rw [jN s a h64]
  ·rw [bu s (a++b) (by simp;omega),bu s a h64,List.take_append_of_le_length h64,List.drop_append_of_le_length h64]
   exact Zp k _ _ _ (by simp;omega)
def QG (r m:Nat):List UInt8:=[128]++(List.replicate ((119-r)%64) 0++qP (8*m) 8)
def S8.get (s:S8) (j:Nat):Int:=s.list.getD j 0
def outB (s:S8) (i:Nat):UInt8:=UInt8.ofNat ((s.get (i/4))/2 ^ (24-8*(i%4))%256).toNat
def bd (s:S8):List UInt8:=(List.range 32).map (outB s)
theorem kO (s:S8):(bd s).length=32:=by simp [bd]
def zV (l:List UInt8):List UInt8:=bd (kW zu (l++QG (l.length%64) l.length)).1
theorem yt (l:List UInt8):(zV l).length=32:=kO _
theorem bv_outB (s:S8) (i:Nat):bv (outB s i) = .int .u8 ((s.get (i/4))/2 ^ (24-8*(i%4))%256):=by
 rw [outB,Zh]
 congr 1
 omega
def xe (s:S8) (k:Nat):List UInt8:=(List.range 32).map (fun i=>if i<k then outB s i else 0)
theorem zJ (s:S8) (k:Nat):(xe s k).length=32:=by simp [xe]
theorem outK_all (s:S8):xe s 32=bd s:=by
 apply List.map_congr_left
 intro i hi
 rw [if_pos (List.mem_range.1 hi)]
theorem outK_set (s:S8) (k:Nat) (hk:k<32):((xe s k).map bv).toArray.setIfInBounds k (.int .u8 ((s.get (k/4))/2 ^ (24-8*(k%4))%256))=((xe s (k+1)).map bv).toArray:=by
 rw [← bv_outB,List.setIfInBounds_toArray]
 congr 1
 apply List.ext_getElem
 ·simp [xe]
 ·intro i h1 h2
  rw [List.getElem_set]
  by_cases e:k=i
  ·subst e;simp [xe]
  ·rw [if_neg e]
   simp only [xe,List.getElem_map,List.getElem_range]
   congr 1
   by_cases h:i<k
   ·rw [if_pos h,if_pos Ws]
   ·rw [if_neg h,if_neg Ws]
theorem yI.st {w:World}{p:Nat}{s:S8}{v:Value}{n:Int}(h:yI w p s v n) (j:Nat) (hj:j<8):w.cell? ⟨p,j,none⟩=some (.int .u32 (s.get j)):=by
 obtain⟨y0,y1,y2,y3,y4,y5,y6,y7,-,-⟩:=h.c
 obtain rfl | rfl | rfl | rfl | rfl | rfl | rfl | rfl:j=0∨j=1∨j=2∨j=3∨j=4∨j=5∨j=6∨j=7:=Ws
 all_goals assumption
def z32:Array Value:=#[.int .u8 0,.int .u8 0,.int .u8 0,.int .u8 0,.int .u8 0,.int .u8 0,.int .u8 0,.int .u8 0,.int .u8 0,.int .u8 0,.int .u8 0,.int .u8 0,.int .u8 0,.int .u8 0,.int .u8 0,.int .u8 0,.int .u8 0,.int .u8 0,.int .u8 0,.int .u8 0,.int .u8 0,.int .u8 0,.int .u8 0,.int .u8 0,.int .u8 0,.int .u8 0,.int .u8 0,.int .u8 0,.int .u8 0,.int .u8 0,.int .u8 0,.int .u8 0]
def zR (w:World) (g:Nat) (l:List UInt8):Prop:=w.heap[g]? = some (.cells (l.map bv).toArray 45 (0,0))
theorem zR.range {w:World}{g:Nat}{l:List UInt8}(h:zR w g l):w.rangeAt g 0 (l.map bv):=fun j v hv=>by
 rw [Nat.zero_add];exact za h (by simpa using hv)
theorem zR.there {w:World}{g:Nat}{l:List UInt8}(h:zR w g l) (n:Nat) (hn:l.length=n):w.there g 0 n:=fun j hj=>by
 rw [Nat.zero_add]
 exact⟨by rw [za (v:=bv (l[j]'(Ws))) h (by rw [List.getElem?_toArray,List.getElem?_map,List.getElem?_eq_getElem Ws];rfl)];rfl,zh h⟩
theorem zR.lt {w:World}{g:Nat}{l:List UInt8}(h:zR w g l):g<w.heap.size:=lt_of_block h
theorem zR.put {w:World}{g:Nat}{l l':List UInt8}(h:zR w g l) (hl:l'.length=l.length):zR (w.setCells g 0 (l'.map bv)) g l':=by
 obtain⟨cur,h1,h2,h3⟩:=xM g (l'.map bv) 0 w _ h
 have e:cur=(l'.map bv).toArray:=by
  apply Array.ext
  ·rw [h2];simp [hl]
  ·intro i hi1 hi2
   have hi3:i<l.length:=by rw [h2] at hi1;simpa using hi1
   have h4:=h3 i (by simpa using hi3)
   rw [if_pos (by simp;omega),Array.getElem?_eq_getElem hi1] at h4
   rw [Nat.sub_zero,List.getElem?_eq_getElem (by simp;omega)] at h4
   rw [Option.some.inj h4]
   simp
 unfold zR
 rw [h1,e]
theorem xU:(Tryz.prog.info? 45).map (·.size)=some 32:=Wr
theorem one32 (l:List UInt8):(l.map bv).toArray.all (·.oneCell')=true:=all_oneCell_toArray (yL l)
theorem ZX {w:World}(h:xN w):0<w.heap.size:=World.block_lt_of_cell? w _ (h 0 _ rfl)
theorem sum_any (w:World) (p:Nat) (s:S8) (v:Value) (l:List UInt8) (m:Nat) (h:yI w p s v m) (hb:zp w v l) (hl:l.length<64) (hm:m≤100000000000) (hks:xN w) :
  CL w 118 #[.pointer (some ⟨p,0,none⟩)] (.agg ((bd (kW s (l++QG l.length m)).1).map bv).toArray):=by
 have HH:=qI h
 have HB:=qI hb
 have Gn:=qI hks
 have HM:=qI hm
 have hlI:(l.length:Int)<64:=Ws
 have HL:=qI hl
 clear h hb hks hm hl
 go_enter func118,ntmps118
 go_upto_region 4 with fail
 change Code.wp _ _ _ _ ((w.alloc (.cells z32 45)).alloc (.cells z32 45))
 obtain⟨W1,Gc⟩:∃ W1,Hid (W1=(w.alloc (.cells z32 45)).alloc (.cells z32 45)):=⟨_,qI rfl⟩
 have Ga:Hid (zb [] w W1):=qI (kA2 Gc.o)
 have Js:Hid (zR W1 w.heap.size (xe s 0)):=qI (by rw [Gc.o];exact ((zb.refl [] _).alloc _).heap (zd rfl) Wz)
 have Jt:Hid (zR W1 (w.heap.size+1) (xe s 0)):=qI (by rw [Gc.o];exact zd Wz)
 have Ju:Hid (W1.heap.size=w.heap.size+2):=qI (by rw [Gc.o];simp)
 rw [← Gc.o]
 have CF:=qI (fork_any W1 p s v l m (HH.o.kept Ga.o Wz) (HB.o.kept0 Ga.o) (by have:=HL.o;unfold lim;omega))
 obtain⟨z,HZ⟩:∃ z,Hid (z=(119 - l.length)%64):=⟨_,qI rfl⟩
 have hz64:z<64:=by rw [HZ.o];omega
 have ez:((119-(l.length:Int))%64)=(z:Int):=by rw [HZ.o];omega
 have hmk:∀ W:World,(Instr.makeSlice 53 (.int .i64 z) (.int .i64 z)).run Tryz.prog W = .ok (.slice (some ⟨W.heap.size,0,none⟩) z z) (W.alloc (.cells (madeCells #[.int .u8 0] z) 5)):=fun W=>Z2 W z (by unfold lim;omega)
 have CP:Hid (∀ W:World,Calls Tryz.prog 80 #[.int .i64 (8*(m:Int)),.int .i64 8] W fun e w'=>∃ v,e = .returned (.tuple #[v,.int .i64 0])∧qe W w' v (qP (8*m) 8)∧zb [] W w'):=qI fun W=>by
  have h1:=YI (8*m) 8 W Wo Wo (.inl rfl)
  rwa [show ((8*m:Nat):Int)=8*(m:Int) by omega] at h1
 have hmI:(m:Int)≤100000000000:=by have:=HM.o;omega
 go_upto_region 6 with (go_at_call 154;refine CF.o.mono ?_;rintro e w2 ⟨q,v',rfl,hq,hh2,hb2,hv2,hk2⟩;obtain⟨av,cv,rfl,-,-⟩:=hb2.form;have HQ:=qI hq;have Gx:=qI hh2;have Jv:=qI hb2;have Jw:=qI hv2;have Gf:=qI hk2;have x8:=hh2.c.2.2.2.2.2.2.2.2.1;clear hq hh2 hb2 hv2 hk2)
 have x9:=((HH.o.kept Ga.o Wz).kept Gf.o Wz).c.2.2.2.2.2.2.2.2.2
 have hwr:wrap64 (8*(m:Int))=8*(m:Int):=by unfold wrap64;omega
 clear x8
 go_upto_region 7 with (go_at_call 80;refine (CP.o _).mono ?_;rintro e w3 ⟨v3,rfl,hnb3,hk3⟩;obtain⟨a3,c3,rfl,-,-⟩:=hnb3.1.form;rw [xu] at hnb3 ⊢;have Gy:=qI hnb3;have Gb:=qI hk3;clear hnb3 hk3 x9)
 obtain⟨W4,Gj⟩:∃ W4,Hid (W4=(w3.alloc (.cells #[.int .u8 128] 5)).alloc (.cells (madeCells #[.int .u8 0] z) 5)):=⟨_,qI rfl⟩
 have Gg:Hid (zb [] w3 W4):=qI (kA2 Gj.o)
 have Jx:Hid (zp W4 (.slice (some ⟨w3.heap.size,0,none⟩) 1 1) [128]):=qI (by rw [Gj.o];exact (jK w3 (bv 128) _ _ rfl).kept0 ((zb.refl [] _).alloc _))
 have Gz:Hid (zp W4 (.slice (some ⟨w3.heap.size+1,0,none⟩) z z) (List.replicate z 0)):=qI (by
  have h1:=Slc.of_row (ZY (w3.alloc (.cells #[.int .u8 128] 5)) 0 z (by unfold lim;omega) (Nat.zero_le _))
  rw [Gj.o]
  have e1:(w3.alloc (.cells #[.int .u8 128] 5)).heap.size=w3.heap.size+1:=Wz
  rw [e1] at h1
  unfold zp
  rw [List.length_replicate]
  exact h1)
 have Jy:Hid (zp W4 (.slice a3 8 c3) (qP (8*m) 8)):=qI (Gy.o.1.kept0 Gg.o)
 have Jz:Hid (W4.heap.size=w3.heap.size+2):=qI (by rw [Gj.o];simp)
 obtain⟨W5,Ja⟩:∃ W5,Hid (W5=W4.alloc (.cells #[.slice (some ⟨w3.heap.size,0,none⟩) 1 1,.slice (some ⟨w3.heap.size+1,0,none⟩) z z,.slice a3 8 c3] 53)):=⟨_,qI rfl⟩
 have Ge:Hid (zb [] W4 W5):=qI (kA1 Ja.o)
 have CC:Hid (Calls Tryz.prog 152 #[.slice (some ⟨w3.heap.size+1+1,0,none⟩) 3 3] W5 fun e w'=>∃ v',e = .returned v'∧qe W5 w' v' (QG l.length m)∧zb [] W5 w'):=qI (by
  have hrow:Row W5 W4.heap.size 0 [.slice (some ⟨w3.heap.size,0,none⟩) 1 1,.slice (some ⟨w3.heap.size+1,0,none⟩) z z,.slice a3 8 c3]:=by rw [Ja.o];exact Qf W4 _ _
  have h1:=concat3 W4.heap.size 3 _ _ _ [128] (List.replicate z 0) (qP (8*m) 8) W5 hrow (Jx.o.kept0 Ge.o) (Gz.o.kept0 Ge.o) (Jy.o.kept0 Ge.o) (by rw [xu];simp [lim];omega)
  rw [Jz.o] at h1
  rw [HZ.o] at h1
  exact h1)
 have hpl:Hid ((QG l.length m).length=9+z):=qI (by simp [QG,xu,HZ.o];omega)
 obtain⟨R,HR⟩:∃ R,Hid (R=kW s (l++QG l.length m)):=⟨_,qI rfl⟩
 have Jf:Hid (zb [] w W5):=qI (((Ga.o.then Gf.o).then Gb.o).then (Gg.o.then Ge.o))
 have Gk:Hid (w.heap.size+2≤q):=qI (by have:=HQ.o;have:=Ju.o;omega)
 have Ma:=qI (ZX Gn.o)
 go_upto_region 8 with first
  | (go_at_call 152;rw [← Gj.o,← Ja.o];refine CC.o.mono ?_;rintro e w6 ⟨v6,rfl,hnb6,hk6⟩;obtain⟨a6,c6,rfl,-,-⟩:=hnb6.1.form;have Gl:=qI hnb6;have Gm:=qI hk6;clear hnb6 hk6)
  | (go_at_call 117;refine (Qt w6 q s (.slice av l.length cv) (.slice a6 (QG l.length m).length c6) l (QG l.length m) m (Gx.o.kept (((Gb.o.then Gg.o).then Ge.o).then Gm.o) Wz) (Jv.o.kept0 (((Gb.o.then Gg.o).then Ge.o).then Gm.o)) (fun g hg=>?_) Gl.o.1 (fun g hg=>?_) (Nat.le_of_lt HL.o) (by rw [hpl.o];omega) Ws (by have:=HM.o;omega) (Gn.o.kept0 (Jf.o.then Gm.o)) (by have:=Ma.o;have:=Gk.o;omega)).mono ?_)
 ·exact xt (Jw.o g hg).2 Gx.o.kd Wo
 ·have h1:=(Gl.o.2 g hg).1
  have h2:=Gx.o.lt
  have h3:=((Gb.o.then Gg.o).then Ge.o).size
  omega
 rintro e w7 ⟨rfl,hwr7⟩
 rw [← HR.o] at hwr7
 obtain⟨⟨v7,hh7,-,-⟩,hk7,-⟩:=hwr7
 have Mb:=qI hh7
 have Mc:Hid (zb [] w w7):=qI ((Jf.o.then Gm.o).trans hk7 (by intro i hi;simp at hi;subst hi;exact .inr (by have:=Gk.o;omega)))
 have Jg:Hid (zb [q] W1 w7):=qI (((Gf.o.then Gb.o).then ((Gg.o.then Ge.o).then Gm.o)).mono Wz |>.trans' hk7)
 have Md:Hid (zR w7 (w.heap.size+1) (xe R.1 0)):=qI (Jg.o.heap Jt.o (by have:=Gk.o;simp;omega))
 have Me:Hid (zR w7 w.heap.size (xe R.1 0)):=qI (Jg.o.heap Js.o (by have:=Gk.o;simp;omega))
 clear hh7 hk7 hmk ez hz64
 go_wp2_with fail
 go_loopw [38] (fun i wr=>∃ k:Nat,i = .int .i64 k∧k≤32∧zR wr (w.heap.size+1) (xe R.1 k)∧zR wr w.heap.size (xe R.1 0)∧yI wr q R.1 v7 (m+(QG l.length m).length)∧zb [] w wr) (fun i _=>32-(intOf i).toNat)
 case atStart=>exact⟨0,rfl,Nat.zero_le _,Md.o,Me.o,Mb.o,Mc.o⟩
 case round=>
  obtain⟨k,rfl,hk,ho,hr,hh,hkr⟩:=hrel
  have HO:=qI ho
  have Jb:=qI hr
  have Mf:=qI hh
  have Jh:=qI hkr
  rcases Nat.lt_or_ge k 32 with h32 | h32
  ·have h32I:(k:Int)<32:=by omega
   have c0:=hh.st (k/4) Ws
   have o0:=za (o:=k) (v:=bv ((xe R.1 k)[k]'(by rw [zJ];exact h32))) ho (by rw [List.getElem?_toArray,List.getElem?_map,List.getElem?_eq_getElem (by rw [zJ];exact h32)];rfl)
   have f0:=zh (o:=k) ho
   clear ho hr hh hkr
   go_wp2_with fail
   case roundEnd=>
    have hst:zb [w.heap.size+1] wr (wr.setCell ⟨w.heap.size+1,k,none⟩ (.int .u8 (R.1.get (k/4)/2 ^ (24-8*(k%4))%256))):=Wd.setCell (.inl Wz) _
    exact⟨⟨k+1,by go_num,Ws,zg HO.o (outK_set R.1 k h32),hst.heap Jb.o Wz,Mf.o.kept hst (by have:=Gk.o;simp;omega),Jh.o.setCell (.inr Wz) _⟩,by simp [intOf];omega⟩
  ·obtain rfl:k=32:=by omega
   clear ho hr hh hkr hmI hwr hlI
   rw [outK_all] at HO
   have hsz:((bd R.1).map bv).toArray.size=32:=by simp [kO]
   go_upto_region 13 with fail
   refine wp_region_list ?_
   change wpList _ _ _ [_,_] _ _
   refine wpList_load_mid Wk 45 (.tmp 3) Wk (w.heap.size+1) 0 Wk ((bd R.1).map bv) _ HO.o.range underlying45 rfl (by rw [List.length_map,kO];exact xU) ?_
   refine wpList_store_mid Wk 45 (.tmp 2) (.tmp 57) Wk w.heap.size 0 ((bd R.1).map bv).toArray Wk Wk (by rw [hsz];exact Jb.o.there 32 (zJ _ _)) (by rw [hsz];exact xU) (one32 _) ?_
   have hF:Hid (zR (wr.setCells w.heap.size 0 ((bd R.1).map bv)) w.heap.size (bd R.1)):=qI (Jb.o.put (by rw [kO,zJ]))
   have hKF:Hid (zb [] w (wr.setCells w.heap.size 0 ((bd R.1).map bv))):=qI (Jh.o.trans (yo w.heap.size ((bd R.1).map bv) 0 wr) (by intro i hi;simp at hi;subst hi;exact .inr (Nat.le_refl _)))
   revert hF hKF
   show _→_→wpList _ _ _ _ _ (wr.setCells w.heap.size 0 ((bd R.1).map bv))
   generalize wr.setCells w.heap.size 0 ((bd R.1).map bv)=WF
   intro hF hKF
   have hres:=run_loadVar_mid (P:=Tryz.prog) WF w.heap.size 0 45 ((bd R.1).map bv) _ hF.o.range underlying45 rfl (by rw [List.length_map,kO];exact xU)
   rw [HR.o] at hres
   try simp only [zA,zN,zB,zC,zD]
   go_wp2_with fail
   exact bodyPost_ret (v:=.agg ((bd (kW s (l++QG l.length m)).1).map bv).toArray) (by simp only [results,results118];simp [hres,Sem.run_bind,asAddr]) rfl ⟨rfl,hKF.o⟩
end Go.Proofs.YtibnfbglanpoiaaGreatDoor

/- Parts of one proof, merged: XCC XCD XCE XCF XCG XCH. -/
import Derived.Test.YtibnfbglanpoiaaGreatDoorQeO
import Derived.Deep.RegionLaw
import Derived.Great.BuildSlice
import Derived.Great.FillDense
set_option linter.all false
set_option maxHeartbeats 12800000
set_option maxRecDepth 10000
namespace Go.Proofs.YtibnfbglanpoiaaGreatDoor
open Go.Proofs.Tryz
open Go.RowKit
abbrev Cq:=CK
abbrev Cz:=CL
theorem row_of_own {w:World}{base e:Nat}{v:Value}{n:Nat}{xs:List Value}(h:w.ownsRow base e 1 v n xs) (hn:0<n):∃ g c,v = .slice (some ⟨g,0,none⟩) n c∧base≤g∧Row w g 0 xs:=by
 have h2:=Slc.of_row h
 rcases h.2 with ⟨rfl,h0⟩ | ⟨g,cap,cur,hv,hg,hh,hc,hm,hs,ht⟩
 ·omega
 ·subst hv
  rcases h2.2 with ⟨h3,_⟩ | ⟨h0,_⟩ | ⟨g',o',c',h3,-,-,h4⟩
  ·cases h3
  ·omega
  ·cases h3
   exact⟨_,_,rfl,hg,h4⟩
theorem Zl:∀ (ls:List (List UInt8)),(∀ l,l∈ls→l.length≤1048576)→(ls.map xz).flatten.length≤1048580*ls.length
 | [],_=>by simp
 | x::t,h=>by
  have h1:=Zl t (fun l hl=>h l (List.mem_cons_of_mem _ hl))
  have h2:=h x Wz
  rw [List.map_cons,List.flatten_cons,List.length_append,Qi,List.length_cons]
  omega
theorem ZI.kept0 {w wr w':World}{q:Nat}{L:List UInt8}(h:ZI w q L wr) (k:zb [] wr w'):ZI w q L w':=by
 obtain⟨v,h1,h2,h3⟩:=h.hash
 exact⟨⟨v,h1.kept k Wz,h2.kept0 k,h3⟩,h.kept.then k,h.res.kept0 k,h.ks.kept0 k⟩
theorem of_step {w wr:World}{q:Nat}{L b:List UInt8}{a:Option Addr}{c:Nat}(h:ZI w q L wr) (hq:w.heap.size<q) (hkc:0<w.heap.size) (hb:zp wr (.slice a b.length c) b) (hx:∀ g,zW (.slice a b.length c)=some g→g≠q) (hL:L.length≤100000000) (hbl:b.length≤100000000) :
  Calls Tryz.prog 117 #[.pointer (some ⟨q,0,none⟩),.slice a b.length c] wr fun e w'=>e = .returned (.int .i64 b.length)∧ZI w q (L++b) w'∧zb [q] wr w':=by
 obtain⟨v,hh,hv,hvq⟩:=h.hash
 have h1:=Qt wr q _ v _ _ b _ hh hv hvq hb hx (Nat.le_of_lt (Qh _ _)) Ws Ws Ws h.ks Ws
 refine h1.mono ?_
 rintro e w' ⟨rfl,⟨v',hh',hb',hv'⟩,hk',hks'⟩
 rw [← Zp _ zu _ b (Nat.le_refl _)] at hh' hb'
 refine⟨rfl,⟨⟨v',?_,hb',fun g hg=>?_⟩,h.kept.trans hk' (by intro i hi;simp at hi;subst hi;exact .inr Ws),hk'.heap h.res (by simp;omega),hks'⟩,hk'⟩
 ·rw [List.length_append,Int.natCast_add]
  exact hh'
 ·have h2:=(hv' g hg).1
  have h3:=hh.lt
  omega
theorem oneCells {w:World}{vals:List Value}{ls:List (List UInt8)}(h:zH (zp w) vals ls):∀ u∈vals,u.oneCell'=true:=by
 intro u hu
 obtain⟨j,hj,rfl⟩:=List.mem_iff_getElem.1 hu
 have hj2:j<ls.length:=by rw [← h.1];exact hj
 obtain⟨a,c,h1,-,-⟩:=(h.2 j _ _ (List.getElem?_eq_getElem hj) (List.getElem?_eq_getElem hj2)).form
 rw [h1];rfl
theorem str_bytes2 (w:World) (s:ByteArray) (hs:s.size≤281474976710656):∃ n c w',(convert 9 53 (.string s)).run Tryz.prog w = .ok (.slice (some ⟨w.heap.size,0,none⟩) n c) w'∧n=s.data.toList.length∧zp w' (.slice (some ⟨w.heap.size,0,none⟩) n c) s.data.toList∧zb [] w w':=by
 refine⟨_,_,_,run_bytes_of_string w 9 53 5 s underlying9 underlying53 underlying5,Wz,?_,?_⟩
 ·have hl:s.data.toList.length=s.size:=by simp
  refine⟨Wz,.inr (.inr ⟨w.heap.size,0,_,by rw [hl],by rw [hl];exact grownCap_ge _ _ _ _,grownCap_le_maxLen _ _ _ _ (by simp only [maxLen];omega),⟨?_,?_⟩⟩)⟩
  ·intro j u hu
   rw [List.getElem?_map,Option.map_eq_some_iff] at hu
   obtain⟨b,hb,rfl⟩:=hu
   obtain⟨hj,rfl⟩:=List.getElem?_eq_some_iff.1 hb
   have hj':j<s.data.size:=by simpa using hj
   rw [Nat.zero_add]
   refine za (heap_alloc_new _ _) ?_
   rw [bytesRow_at s _ j hj']
   simp [bv]
  ·show w.heap.size<(w.drew.alloc _).heap.size
   simp
 ·exact (zb.refl [] w).drew.alloc _
theorem JC (tag:ByteArray) (w:World) (a:Option Addr) (cap:Nat) (vals:List Value) (ls:List (List UInt8)) (hsl:Slc w 1 (.slice a vals.length cap) vals.length vals) (hall:zH (zp w) vals ls) (hb:∀ l,l∈ls→l.length≤1048576) (ht:tag.size≤1000) (hn:vals.length≤16) (hks:xN w) :
  CL w 104 #[.string tag,.slice a vals.length cap] (.agg ((vF tag.data.toList ls).map bv).toArray):=by
 obtain⟨W1,Ga⟩:∃ W1,Hid (W1=w.alloc (.cells z32 45)):=⟨_,qI rfl⟩
 have Gb:Hid (zb [] w W1):=qI (kA1 Ga.o)
 have Gf:Hid (zR W1 w.heap.size (xe zu 0)):=qI (by rw [Ga.o];exact zd rfl)
 have Gd:=qI hsl
 have Gh:=qI hall
 have Gj:=qI hks
 have Jz:=qI (ZX hks)
 have Ma:=qI ht
 have Gl:=qI hn
 obtain⟨bs,Gv⟩:∃ bs,Hid (bs=tag.data.toList::ls):=⟨_,qI rfl⟩
 have Gm:Hid (∀ l,l∈bs→l.length≤1048576):=qI (fun l hl=>by
  rw [Gv.o] at hl
  rcases List.mem_cons.1 hl with rfl | h1
  ·have:tag.data.toList.length=tag.size:=by simp
   omega
  ·exact hb l h1)
 obtain⟨N,HN⟩:∃ N,Hid (N=vals.length+1):=⟨_,qI rfl⟩
 have Gz:Hid (bs.length=N):=qI (by rw [Gv.o,List.length_cons,← hall.1,HN.o])
 clear hsl hall hb ht hn hks
 go_enter func104,ntmps104
 go_upto_region 1 with fail
 refine yq Ga.o ?_
 go_upto_region 2 with (go_at_call 116;refine (new_any W1).mono ?_;rintro e w2 ⟨q,rfl,hq,hh2,hk2⟩;have HQ:=qI hq;have Jh:=qI hh2;have Gc:=qI hk2;clear hq hh2 hk2)
 have Ji:Hid (w.heap.size<q):=qI (by have:=HQ.o;have:=Gf.o.lt;omega)
 obtain⟨nt,ct,w3,hconv,hnt,hbt,hk3⟩:=str_bytes2 w2 tag (by have:=Ma.o;omega)
 obtain⟨xs,Gq⟩:∃ xs,Hid (xs = .slice (some ⟨w2.heap.size,0,none⟩) nt ct::vals):=⟨_,qI rfl⟩
 have Mb:Hid (xs.length=N):=qI (by rw [Gq.o,HN.o];rfl)
 obtain⟨W5,Gw⟩:∃ W5,Hid (W5=(w3.alloc (.cells #[.slice (some ⟨w2.heap.size,0,none⟩) nt ct] 53)).alloc (.cells #[.slice (some ⟨w3.heap.size,0,none⟩) 1 1,.slice a vals.length cap] 164)):=⟨_,qI rfl⟩
 have Ge:Hid (zb [] w3 W5):=qI (kA2 Gw.o)
 have Ja:Hid (zb [] w w3):=qI ((Gb.o.then Gc.o).then hk3)
 have Gr:Hid (zb [] w W5):=qI (Ja.o.then Ge.o)
 have Jj:Hid (ZI w q [] W5):=qI (ZI.kept0 (wr:=w2) ⟨⟨_,Jh.o,yV _ _,by simp [zW]⟩,Gb.o.then Gc.o,Gc.o.heap Gf.o Wz,Gj.o.kept0 (Gb.o.then Gc.o)⟩ (hk3.then Ge.o))
 have Gs:Hid (zH (zp W5) xs bs):=qI (by
  rw [Gq.o,Gv.o]
  rw [hnt] at hbt ⊢
  exact (Gh.o.mono (fun x y _ h=>h.kept0 Gr.o)).cons (hbt.kept0 Ge.o))
 have CC:Hid (Calls Tryz.prog 141 #[.slice (some ⟨w3.heap.size+1,0,none⟩) 2 2] W5 fun e w'=>∃ v',e = .returned v'∧w'.ownsRow W5.heap.size 53 1 v' N xs∧zb [] W5 w'):=qI (by
  have h1:Slc W5 1 (.slice (some ⟨w3.heap.size,0,none⟩) 1 1) 1 [.slice (some ⟨w2.heap.size,0,none⟩) nt ct]:=by
   rw [Gw.o]
   exact (jK w3 (.slice (some ⟨w2.heap.size,0,none⟩) nt ct) _ _ rfl).kept0 ((zb.refl [] _).alloc _)
  have h2:=Gd.o.kept0 Gr.o
  have h3:Row W5 (w3.heap.size+1) 0 [.slice (some ⟨w3.heap.size,0,none⟩) 1 1,.slice a vals.length cap]:=by
   have h4:=Qf (w3.alloc (.cells #[.slice (some ⟨w2.heap.size,0,none⟩) nt ct] 53)) [.slice (some ⟨w3.heap.size,0,none⟩) 1 1,.slice a vals.length cap] 164
   rw [Gw.o]
   simpa using h4
  have h5:=concatS_any (w3.heap.size+1) 0 2 _ [[.slice (some ⟨w2.heap.size,0,none⟩) nt ct],vals] W5 h3 (zH.cons (R:=fun v l=>Slc W5 1 v l.length l) h1 (zH.cons (R:=fun v l=>Slc W5 1 v l.length l) h2 (zH.nil _))) (fun l hl u hu=>by
   simp only [List.mem_cons,List.not_mem_nil,or_false] at hl
   rcases hl with rfl | rfl
   ·simp only [List.mem_cons,List.not_mem_nil,or_false] at hu
    subst hu;rfl
   ·exact oneCells Gh.o u hu) (by simp;have:=Gl.o;omega) Wz
  simp only [List.flatten_cons,List.flatten_nil,List.append_nil,List.cons_append,List.nil_append,List.length_cons] at h5
  rw [← Gq.o,← HN.o] at h5
  exact h5)
 have hnI:(vals.length:Int)≤16:=by have:=Gl.o;omega
 have hNI:(N:Int)≤17:=by have:=Gl.o;have:=HN.o;omega
 clear hnt hbt hk3
 go_upto_region 3 with (go_at_call 141;rw [← Gw.o];refine CC.o.mono ?_;rintro e w6 ⟨v6,rfl,hown6,hk6⟩;obtain⟨g6,c6,rfl,hg6,hr6⟩:=row_of_own hown6 (by rw [HN.o];exact Nat.succ_pos _);have Mc:=qI hr6;have Md:=qI hg6;have Jk:=qI hk6;clear hown6 hk6 hg6 hr6)
 have Me:Hid (q<W5.heap.size):=qI (by obtain⟨v,h1,-⟩:=Jj.o.hash;exact h1.lt)
 have Jl:Hid (∀ k,((bs.take k).map xz).flatten.length≤18000000):=qI (fun k=>by
  have h1:=Zl (bs.take k) (fun l hl=>Gm.o l (List.mem_of_mem_take hl))
  have h2:(bs.take k).length≤17:=by rw [List.length_take,Gz.o];omega
  have h3:1048580*(bs.take k).length≤1048580*17:=Nat.mul_le_mul_left _ h2
  omega)
 have Mf:Hid (∀ k (h:k<xs.length) g,zW xs[k]=some g→g≠q):=qI (fun k h g hg=>by
  have h2:q<w2.heap.size:=Jh.o.lt
  have h3:xs[k]∈xs:=List.getElem_mem h
  generalize xs[k]=z at h3 hg
  rw [Gq.o] at h3
  rcases List.mem_cons.1 h3 with h4 | h4
  ·rw [h4] at hg
   have h5:=(jo hg).2
   simp [Value.ownBlock] at h5
   omega
  ·obtain⟨j,hj,h5⟩:=List.mem_iff_getElem.1 h4
   have hj2:j<ls.length:=by rw [← Gh.o.1];exact hj
   rw [← h5] at hg
   have h6:=(Gh.o.2 j _ _ (List.getElem?_eq_getElem hj) (List.getElem?_eq_getElem hj2)).lt hg
   have:=Ji.o
   omega)
 clear hconv
 go_loopw [7,8,9,18] (fun _ _ _ i wr=>∃ k:Nat,i = .int .i64 k∧k≤N∧ZI w q ((bs.take k).map xz).flatten wr∧zb [q] w6 wr) (fun _ _ _ i _=>N-(intOf i).toNat)
 case atStart=>exact⟨0,rfl,Nat.zero_le _,Jj.o.kept0 Jk.o,Wd⟩
 case round=>
  obtain⟨k,rfl,hk,hof,hkq⟩:=hrel
  have Gn:=qI hof
  have Jb:=qI hkq
  clear hof hkq
  rcases Nat.lt_or_ge k N with hlt | hlt
  ·have hltI:(k:Int)<N:=by omega
   have hx2:k<xs.length:=by rw [Mb.o];exact hlt
   have hb2:k<bs.length:=by rw [Gz.o];exact hlt
   have c0:=Jb.o.cell (Mc.o.at hx2) (by have:=Me.o;have:=Md.o;simp;omega)
   rw [Nat.zero_add] at c0
   have Jc:Hid (zp wr xs[k] bs[k]):=qI (((Gs.o.2 k _ _ (List.getElem?_eq_getElem hx2) (List.getElem?_eq_getElem hb2)).kept0 Jk.o).kept Jb.o (fun g hg=>by have:=Mf.o k hx2 g hg;simpa using this))
   have Jd:Hid (bs[k].length≤1048576):=qI (Gm.o _ (List.getElem_mem _))
   have Jm:Hid (((bs.take (k+1)).map xz).flatten=((bs.take k).map xz).flatten++xz bs[k]):=qI (by
    rw [List.take_succ_eq_append_getElem hb2,List.map_append,List.flatten_append];simp)
   generalize bs[k]=lk at Jc Jd Jm
   have CT:Hid (Calls Tryz.prog 142 #[.string (yc lk)] wr fun e w'=>(∃ a c,e = .returned (.tuple #[.slice a (xz lk).length c,.int .i64 0])∧qe wr w' (.slice a (xz lk).length c) (xz lk))∧zb [] wr w'):=qI (by
    have h1:=octText_any (yc lk) (by rw [xv];exact Jd.o) wr
    rw [xZ] at h1
    exact h1)
   have CW:Hid (∀ (w7:World) (a7:Option Addr) (c7:Nat),qe wr w7 (.slice a7 (xz lk).length c7) (xz lk)→zb [] wr w7→Calls Tryz.prog 117 #[.pointer (some ⟨q,0,none⟩),.slice a7 (xz lk).length c7] w7 fun e w'=>e = .returned (.int .i64 (xz lk).length)∧ZI w q ((bs.take (k+1)).map xz).flatten w'∧zb [q] w6 w'):=qI (fun w7 a7 c7 hnb hk7=>by
    have h1:=of_step (Gn.o.kept0 hk7) Ji.o Jz.o hnb.1 (fun g hg=>by have h2:=(hnb.2 g hg).1;obtain⟨v,h3,-⟩:=Gn.o.hash;have h4:=h3.lt;omega) (by have:=Jl.o k;omega) (by rw [Qi];have:=Jd.o;omega)
    refine h1.mono ?_
    rintro e w' ⟨rfl,h2,h3⟩
    rw [Jm.o]
    exact⟨rfl,h2,(Jb.o.then hk7).trans' h3⟩)
   have hcv:=Jc.o.toStr
   obtain⟨va,vn,vc,hvv,-,-⟩:∃ a n c,xs[k] = .slice a n c∧True∧True:=by
    obtain⟨a,c,h1,-,-⟩:=Jc.o.form
    exact⟨_,_,_,h1,trivial,trivial⟩
   rw [hvv] at c0 hcv
   generalize (xz lk).length=tl at CT CW
   clear hvv
   go_wp2_with first
    | (go_at_call 142;refine CT.o.mono ?_;rintro e w7 ⟨⟨a7,c7,rfl,hn7⟩,hk7⟩;have Mg:=qI hn7;have Mh:=qI hk7;clear hn7 hk7)
    | (go_at_call 117;refine (CW.o _ _ _ Mg.o Mh.o).mono ?_;rintro e w8 ⟨rfl,ho8,hq8⟩;have Mi:=qI ho8;have Mj:=qI hq8;clear ho8 hq8)
   case roundEnd=>exact⟨⟨k+1,by go_num,Ws,Mi.o,Mj.o⟩,by simp [intOf];omega⟩
  ·obtain rfl:k=N:=by omega
   have HT:Hid (((bs.take k).map xz).flatten=(bs.map xz).flatten):=qI (by rw [← Gz.o,List.take_length])
   rw [HT.o] at Gn
   have Jn:Hid (vF tag.data.toList ls=zV (bs.map xz).flatten):=qI (by rw [Gv.o];rfl)
   have CS:Hid (Cz wr 118 #[.pointer (some ⟨q,0,none⟩)] (.agg ((zV (bs.map xz).flatten).map bv).toArray)):=qI (by
    obtain⟨v,h1,h2,-⟩:=Gn.o.hash
    have h3:=sum_any wr q _ v _ (bs.map xz).flatten.length h1 h2 (Qh _ _) (by have:=Jl.o k;rw [HT.o] at this;omega) Gn.o.ks
    rw [← Zp _ zu _ _ (Nat.le_refl _),KM _ _ _ (Nat.le_refl _)] at h3
    exact h3)
   generalize hsl:zV (bs.map xz).flatten=sl at CS Jn
   have Gt:Hid (sl.length=32):=qI (by rw [← hsl,yt])
   clear hsl
   go_wp2_with first
    | (go_at_call 118;refine CS.o.mh ?_;rintro e w4 rfl Gg)
    | (refine zq Wk (.tmp 4) (.tmp 36) Wk (Gn.o.res.kept0 Gg.o) (zJ _ _) Gt.o Wk Wk ?_;intro w5 h5 hk5;have H5:=qI h5;have Ge:=qI hk5;clear h5 hk5)
   have hres:=H5.o.var Gt.o
   refine bodyPost_ret (v:=.agg (sl.map bv).toArray) (by simp only [results,results104];simp [hres,Sem.run_bind,asAddr,Act.put]) rfl ⟨by rw [Jn.o],?_⟩
   exact (Gn.o.kept.then Gg.o).trans Ge.o (by intro i hi;simp at hi;subst hi;exact .inr (Nat.le_refl _))
structure qu (W:World) (p:Nat) (w:World) (L:List UInt8):Prop where
 kept:zb [] W w
 new_:W.heap.size≤p
 val:∃ a c,w.heap[p]? = some (.cells #[.slice a L.length c] 109 (0,0))∧w.ownsRow W.heap.size 5 1 (.slice a L.length c) L.length (L.map bv)
theorem qu.kept0 {W w w':World}{p:Nat}{L:List UInt8}(h:qu W p w L) (k:zb [] w w'):qu W p w' L:=by
 obtain⟨a,c,h1,h2⟩:=h.val
 exact⟨h.kept.then k,h.new_,a,c,k.heap h1 Wz,zo h2 k Wz⟩
theorem qu.lt {W w:World}{p:Nat}{L:List UInt8}(h:qu W p w L):p<w.heap.size:=by
 obtain⟨a,c,h1,h2⟩:=h.val
 exact lt_of_block h1
theorem vN {W w:World}{p:Nat}{L x y:List UInt8}(h:qu W p w L) (hx:x.length=32) (hy:y.length=32) (hL:L.length≤1000000) :
  Calls Tryz.prog 70 #[.pointer (some ⟨p,0,none⟩),.agg (x.map bv).toArray,.agg (y.map bv).toArray] w fun e w'=>e = .returned (.tuple #[])∧qu W p w' (L++x++y):=by
 obtain⟨a,c,h1,h2⟩:=h.val
 have hwp:=h.lt
 obtain⟨W1,Ga⟩:∃ W1,Hid (W1=(w.alloc (.cells (x.map bv).toArray 45)).alloc (.cells (y.map bv).toArray 45)):=⟨_,qI rfl⟩
 have Gb:Hid (zb [] w W1):=qI (kA2 Ga.o)
 have Gu:Hid (zR W1 w.heap.size x):=qI (by rw [Ga.o];exact ((zb.refl [] _).alloc _).heap (zd rfl) Wz)
 have Jo:Hid (zR W1 (w.heap.size+1) y):=qI (by rw [Ga.o];exact zd Wz)
 have Gm:=qI (Gb.o.heap h1 Wz)
 have Jp:=qI (zo h2 Gb.o Wz)
 have c0:=za (o:=0) Gm.o rfl
 have f0:=zh (o:=0) Gm.o
 have Gq:Hid (Slc W1 1 (.slice (some ⟨w.heap.size,0,none⟩) 32 32) 32 (x.map bv)):=qI ⟨by simp [hx],.inr (.inr ⟨_,0,32,rfl,Nat.le_refl _,Wo,⟨Gu.o.range,Gu.o.lt⟩⟩)⟩
 have Mk:Hid (Slc W1 1 (.slice (some ⟨w.heap.size+1,0,none⟩) 32 32) 32 (y.map bv)):=qI ⟨by simp [hy],.inr (.inr ⟨_,0,32,rfl,Nat.le_refl _,Wo,⟨Jo.o.range,Jo.o.lt⟩⟩)⟩
 have H:=qI h
 have Jq:=qI (And.intro hx hy)
 have Ml:=qI h2
 have HL:=qI hL
 clear h h1 h2 hx hy hL hwp
 go_enter func70,ntmps70
 go_upto_region 1 with fail
 rw [← Ga.o]
 have Jr:Hid (W.heap.size≤W1.heap.size):=qI (by have:=H.o.kept.size;have:=Gb.o.size;omega)
 have Je:Hid (∀ i,i∈(Value.slice a L.length c).ownBlock.toList→W.heap.size≤i∧i≠p∧i<w.heap.size):=qI (fun i hi=>by
  have h3:=Ml.o.lt i (Option.mem_toList.1 hi)
  exact⟨h3.1,xt (yp Jp.o (Option.mem_toList.1 hi)) (zM Gm.o) Wo,h3.2⟩)
 go_region_law (first
  | (refine yR xV Js.o (Mk.o.drew.kept Gc.o (fun g hg hx=>by have h3:=(Je.o g hx).2.2;have h4:=(jo hg).2;simp [Value.ownBlock] at h4;omega)) (yL _) Wo (by have:=HL.o;simp only [maxLen];omega) (by have:=HL.o;omega) (by have:=Jr.o;have:=Gc.o.size;simp at this;omega) Wk _ _ Wk Wk Wk ?_;intro g3 c3 w3 hown3 hk3 hg3;have Jt:=qI hown3;have Gk:=qI hk3;have hb3:=hk3.heap (Gx.o) (Jf.o);have u0:=za (o:=0) hb3 rfl;have uf:=zh (o:=0) hb3;have Ju:=qI hb3;clear hb3 hown3 hk3 hg3)
  | (refine yR xV (Jp.o.drew) Gq.o.drew (yL _) Wo (by have:=HL.o;simp only [maxLen];omega) (by have:=HL.o;omega) Jr.o Wk _ _ Wk Wk Wk ?_;intro g2 c2 w2 hown2 hk2 hg2;have Js:=qI hown2;have Gc:=qI hk2;have Gx:=qI (hk2.heap (show W1.drew.heap[p]? = _ from Gm.o) (fun hx=>(Je.o p hx).2.1 rfl));have Jf:Hid (p ∉ (Value.slice (some ⟨g2,0,none⟩) (L.length+32) c2).ownBlock.toList):=qI (fun hx=>xt (yp hown2 (Option.mem_toList.1 hx)) (zM Gx.o) Wo rfl);clear hown2 hk2 hg2))
 all_goals
  go_wp2_with fail
  go_end0
  have ks:zb [p] w3 (w3.setCell ⟨p,0,none⟩ (.slice (some ⟨g3,0,none⟩) (L.length+32+32) c3)):=(zb.refl _ w3).setCell (.inl Wz) _
  refine⟨rfl,?_,H.o.new_,?_⟩
  ·exact ((((H.o.kept.then Gb.o).drew).trans Gc.o (fun i hi=>.inr (Je.o i hi).1)).trans Gk.o (fun i hi=>.inr (Js.o.lt i (Option.mem_toList.1 hi)).1)).setCell (.inr H.o.new_) _
  ·have el:(L++x++y).length=L.length+32+32:=by rw [List.length_append,List.length_append,Jq.o.1,Jq.o.2]
   rw [el,List.map_append,List.map_append]
   exact⟨_,_,zg Ju.o rfl,zo Jt.o ks (fun g hg hx=>by
    simp at hx
    subst hx
    exact xt (yp Jt.o hg) (zM Ju.o) Wo rfl)⟩
theorem sumsNew (w:World):qu w w.heap.size (w.alloc (.cells #[.slice none 0 0] 109)) []:=
 ⟨(zb.refl _ w).alloc _,Nat.le_refl _,none,0,zd rfl,World.ownsRow_nil _ _ _ _⟩
theorem tag_new (tag:ByteArray) (w:World) (vals:List Value) (ls:List (List UInt8)) (hall:zH (zp w) vals ls) (hb:∀ l,l∈ls→l.length≤1048576) (ht:tag.size≤1000) (hn:vals.length≤16) (hks:xN w) :
  Calls Tryz.prog 104 #[.string tag,.slice (some ⟨w.heap.size,0,none⟩) vals.length vals.length] (w.alloc (.cells vals.toArray 53)) fun e w'=>e = .returned (.agg ((vF tag.data.toList ls).map bv).toArray)∧zb [] w w':=by
 have hk:=(zb.refl [] w).alloc (.cells vals.toArray 53)
 refine (JC tag _ _ _ vals ls (zT w vals 1 vals.length _ _ rfl Wz (by simp only [maxLen];omega)) (hall.mono (fun _ _ _ h=>h.kept0 hk)) hb ht hn (hks.kept0 hk)).mono ?_
 rintro e w' ⟨h1,h2⟩
 exact⟨h1,hk.then h2⟩
theorem infoD:(Tryz.prog.info? 196).map (·.size)=some 32:=Wr
def Dig (w:World) (g:Nat) (l:List UInt8):Prop:=w.heap[g]? = some (.cells (l.map bv).toArray 196 (0,0))
theorem Dig.range {w:World}{g:Nat}{l:List UInt8}(h:Dig w g l):w.rangeAt g 0 (l.map bv):=fun j v hv=>by
 rw [Nat.zero_add];exact za h (by simpa using hv)
theorem Dig.there {w:World}{g:Nat}{l:List UInt8}(h:Dig w g l) (n:Nat) (hn:l.length=n):w.there g 0 n:=fun j hj=>by
 rw [Nat.zero_add]
 exact⟨by rw [za (v:=bv (l[j]'(Ws))) h (by rw [List.getElem?_toArray,List.getElem?_map,List.getElem?_eq_getElem Ws];rfl)];rfl,zh h⟩
theorem Dig.put {w:World}{g:Nat}{l l':List UInt8}(h:Dig w g l) (hl:l'.length=l.length):Dig (w.setCells g 0 (l'.map bv)) g l':=by
 obtain⟨cur,h1,h2,h3⟩:=xM g (l'.map bv) 0 w _ h
 have e:cur=(l'.map bv).toArray:=by
  apply Array.ext
  ·rw [h2];simp [hl]
  ·intro i hi1 hi2
   have hi3:i<l.length:=by rw [h2] at hi1;simpa using hi1
   have h4:=h3 i (by simpa using hi3)
   rw [if_pos (by simp;omega),Array.getElem?_eq_getElem hi1] at h4
   rw [Nat.sub_zero,List.getElem?_eq_getElem (by simp;omega)] at h4
   rw [Option.some.inj h4]
   simp
 unfold Dig
 rw [h1,e]
theorem wpList_storeD {ops:Array Oper}{rest:List Oper}{op:Oper}{a:Act}{w:World}{Q:Exit→Act→World→Prop}(hgd:op.guard=none) (x y:Operand) (ho:op.op = .store 196 x y) {g:Nat}{l l0:List UInt8}(h0:Dig w g l0) (hl0:l0.length=32) (hl:l.length=32)
  (hx:a.eval x = .pointer (some ⟨g,0,none⟩)) (hy:a.eval y = .agg (l.map bv).toArray) (h:∀ w',Dig w' g l→zb [g] w w'→wpList Tryz.prog ops Q rest (a.put op.dst undef) w'):wpList Tryz.prog ops Q (op::rest) a w:=by
 have hsz:(l.map bv).toArray.size=32:=by simp [hl]
 refine wpList_store_mid hgd 196 x y ho g 0 (l.map bv).toArray hx hy (by rw [hsz];exact h0.there 32 hl0) (by rw [hsz];exact infoD) (one32 _) (h _ ?_ (yo _ _ _ _))
 exact h0.put (by rw [hl,hl0])
theorem Dig.var {w:World}{g:Nat}{l:List UInt8}(h:Dig w g l) (hl:l.length=32):(loadVar 196 ⟨g,0,none⟩).run Tryz.prog w = .ok (.agg (l.map bv).toArray) w:=run_loadVar_mid (P:=Tryz.prog) w g 0 196 (l.map bv) _ h.range underlying196 rfl (by rw [List.length_map,hl];exact infoD)
theorem lamOf_any {w:World}{a:Option Addr}{c:Nat}{m:List UInt8}(hb:zp w (.slice a m.length c) m) (hm:m.length≤1048576) (hks:xN w) :
  CL w 147 #[.slice a m.length c] (.agg ((kh m).map bv).toArray):=by
 obtain⟨W1,Ga⟩:∃ W1,Hid (W1=w.alloc (.cells z32 196)):=⟨_,qI rfl⟩
 have Gb:Hid (zb [] w W1):=qI (kA1 Ga.o)
 have Mm:Hid (Dig W1 w.heap.size (xe zu 0)):=qI (by rw [Ga.o];exact zd rfl)
 have CT:Hid (Calls Tryz.prog 104 #[.string ⟨#[108,97,109,112,111,114,116,32,109,101,115,115,97,103,101]⟩,.slice (some ⟨W1.heap.size,0,none⟩) 1 1] (W1.alloc (.cells #[.slice a m.length c] 53)) fun e w'=>e = .returned (.agg ((kh m).map bv).toArray)∧zb [] W1 w'):=
  qI (tag_new ⟨#[108,97,109,112,111,114,116,32,109,101,115,115,97,103,101]⟩ W1 [.slice a m.length c] [m] ((zH.nil _).cons (hb.kept0 Gb.o)) (by simpa using hm) Wo (Nat.succ_le_succ (Nat.zero_le _)) (hks.kept0 Gb.o))
 generalize hml:kh m=ml at CT
 have Jv:Hid (ml.length=32):=qI (by rw [← hml,Y4])
 clear hb hm hks hml
 go_enter func147,ntmps147
 go_upto_region 1 with fail
 refine yq Ga.o ?_
 go_wp2_with first
  | (go_at_call 104;refine CT.o.mono ?_;rintro e w2 ⟨rfl,hk2⟩;have Gc:=qI hk2;have Mn:Hid (Dig w2 w.heap.size (xe zu 0)):=qI (hk2.heap Mm.o Wz);clear hk2)
  | (refine wpList_storeD Wk (.tmp 2) (.tmp 5) Wk Mn.o (zJ _ _) Jv.o Wk Wk ?_;intro w3 h3 hk3;have H3:=qI h3;have Gk:=qI hk3;clear h3 hk3)
 have hres:=H3.o.var Jv.o
 refine bodyPost_ret (v:=.agg (ml.map bv).toArray) (by simp only [results,results147];simp [hres,Sem.run_bind,asAddr,Act.put]) rfl ⟨rfl,?_⟩
 exact (Gb.o.then Gc.o).trans Gk.o (by intro i hi;simp at hi;subst hi;exact .inr (Nat.le_refl _))
theorem and_one:∀ q:Fin 256,bits BinOp.and IntKind.i64 (wrap64 (q.val:Int)) 1=((q.val%2:Nat):Int):=by decide +kernel
theorem QR (w:World) (d:List UInt8) (hd:d.length=32) (b:Nat) (hb:b<256) :
  CL w 148 #[.agg (d.map bv).toArray,.int .i64 b] (.int .i64 (yT d b)):=by
 obtain⟨W1,Ga⟩:∃ W1,Hid (W1=w.alloc (.cells (d.map bv).toArray 196)):=⟨_,qI rfl⟩
 have Gb:Hid (zb [] w W1):=qI (kA1 Ga.o)
 have hdl:b/8<d.length:=Ws
 have c0:W1.cell? ⟨w.heap.size,b/8,none⟩=some (.int .u8 (d.getD (b/8) 0).toNat):=by
  rw [Ga.o]
  refine za (zd rfl) ?_
  rw [List.getElem?_toArray,List.getElem?_map,List.getElem?_eq_getElem hdl,List.getD,List.getElem?_eq_getElem hdl]
  rfl
 have hlt:=UInt8.toNat_lt (d.getD (b/8) 0)
 have HS:Hid (yT d b=(d.getD (b/8) 0).toNat/2 ^ (7-b%8)%2):=qI rfl
 generalize (d.getD (b/8) 0).toNat=x at c0 HS hlt
 clear hd hdl
 go_enter func148,ntmps148
 go_upto_region 1 with fail
 rw [← Ga.o]
 go_wp2_with fail
 go_ret
 have hq:((x:Int)/2 ^ (7-b%8))=((x/2 ^ (7-b%8):Nat):Int):=Wz
 have h1:=and_one ⟨x/2 ^ (7-b%8),Nat.lt_of_le_of_lt (Nat.div_le_self _ _) hlt⟩
 simp only at h1
 refine⟨?_,Gb.o⟩
 rw [HS.o,← h1,← hq]
 rfl
theorem JL {w:World}{a:Option Addr}{c:Nat}{seed:List UInt8}(hb:zp w (.slice a seed.length c) seed) (hs:seed.length≤64) (leaf bit side:Nat) (hl:leaf<4294967296) (hbt:bit<65536) (hsd:side<256) (hks:xN w) :
  CL w 72 #[.slice a seed.length c,.int .i64 leaf,.int .i64 bit,.int .i64 side] (.agg ((zZ seed leaf bit side).map bv).toArray):=by
 obtain⟨W1,Ga⟩:∃ W1,Hid (W1=w.alloc (.cells z32 45)):=⟨_,qI rfl⟩
 have Gb:Hid (zb [] w W1):=qI (kA1 Ga.o)
 have Gf:Hid (zR W1 w.heap.size (xe zu 0)):=qI (by rw [Ga.o];exact zd rfl)
 have CP4:=qI (YI leaf 4 W1 Wo Wo (.inr hl))
 have CP2:=qI (fun w2=>YI bit 2 w2 Wo Wo (.inr hbt))
 have HS:=qI hs
 have HB:=qI (hb.kept0 Gb.o)
 have Gj:=qI (hks.kept0 Gb.o)
 have CT:Hid (∀ (w3:World) (a4 a2:Option Addr) (c4 c2:Nat),zb [] W1 w3→zp w3 (.slice a4 4 c4) (qP leaf 4)→zp w3 (.slice a2 2 c2) (qP bit 2)→Calls Tryz.prog 104 #[.string ⟨#[108,97,109,112,111,114,116,32,115,101,99,114,101,116]⟩,.slice (some ⟨w3.heap.size+1,0,none⟩) 4 4] ((w3.alloc (.cells #[.int .u8 (side:Int)] 5)).alloc (.cells #[.slice a seed.length c,.slice a4 4 c4,.slice a2 2 c2,.slice (some ⟨w3.heap.size,0,none⟩) 1 1] 53)) fun e w'=>e = .returned (.agg ((zZ seed leaf bit side).map bv).toArray)∧zb [] w3 w'):=qI (fun w3 a4 a2 c4 c2 hk h4 h2=>by
  have hka:=(zb.refl [] w3).alloc (.cells #[.int .u8 (side:Int)] 5)
  have h1:zp (w3.alloc (.cells #[.int .u8 (side:Int)] 5)) (.slice (some ⟨w3.heap.size,0,none⟩) 1 1) [UInt8.ofNat side]:=by
   have h9:=jK w3 (bv (UInt8.ofNat side)) 5 _ rfl
   have e0:bv (UInt8.ofNat side) = .int .u8 (side:Int):=by rw [Zh,Int.emod_eq_of_lt Ws Ws]
   rw [e0] at h9
   exact⟨rfl,by rw [List.map_cons,List.map_nil,e0];exact h9.2⟩
  have h5:=tag_new ⟨#[108,97,109,112,111,114,116,32,115,101,99,114,101,116]⟩ (w3.alloc (.cells #[.int .u8 (side:Int)] 5)) [.slice a seed.length c,.slice a4 4 c4,.slice a2 2 c2,.slice (some ⟨w3.heap.size,0,none⟩) 1 1] [seed,qP leaf 4,qP bit 2,[UInt8.ofNat side]]
   (zH.cons (R:=zp _) ((HB.o.kept0 hk).kept0 hka) (zH.cons (R:=zp _) (by have h8:=h4.kept0 hka;unfold zp;rw [xu];unfold zp at h8;rw [xu] at h8;exact h8) (zH.cons (R:=zp _) (by have h8:=h2.kept0 hka;unfold zp;rw [xu];unfold zp at h8;rw [xu] at h8;exact h8) (zH.cons (R:=zp _) h1 (zH.nil _))))) (fun l hl=>by
    have:=HS.o
    simp only [List.mem_cons,List.not_mem_nil,or_false] at hl
    rcases hl with rfl | rfl | rfl | rfl
    ·omega
    ·rw [xu];decide
    ·rw [xu];decide
    ·exact Nat.le_of_ble_eq_true rfl) Wo (Nat.le_of_ble_eq_true rfl) ((Gj.o.kept0 hk).kept0 hka)
  have e1:(w3.alloc (.cells #[.int .u8 (side:Int)] 5)).heap.size=w3.heap.size+1:=Wz
  rw [e1] at h5
  exact h5.mono fun e w' ⟨h6,h7⟩=>⟨h6,hka.then h7⟩)
 generalize hsl:zZ seed leaf bit side=sl at CT
 have Gd:Hid (sl.length=32):=qI (by rw [← hsl,jY])
 have Gb:=Gb
 have hsI:(side:Int)<256:=Ws
 generalize seed.length=sn at CT
 clear hb hks hs hsl hl hbt hsd
 go_enter func72,ntmps72
 go_upto_region 1 with fail
 refine yq Ga.o ?_
 go_upto_region 2 with (go_at_call 80;refine CP4.o.mono ?_;rintro e w2 ⟨v4,rfl,hn4,hk2⟩;obtain⟨a4,c4,rfl,-,-⟩:=hn4.1.form;rw [xu] at hn4 ⊢;have Mo:=qI hn4;have Gc:=qI hk2;clear hn4 hk2)
 go_upto_region 3 with (go_at_call 80;refine (CP2.o w2).mono ?_;rintro e w3 ⟨v2,rfl,hn2,hk3⟩;obtain⟨a2,c2,rfl,-,-⟩:=hn2.1.form;rw [xu] at hn2 ⊢;have Jf:=qI hn2;have Gk:=qI hk3;clear hn2 hk3)
 have Mp:Hid (zp w3 (.slice a4 4 c4) (qP leaf 4)):=qI (by have h1:=Mo.o.1;unfold zp at h1 ⊢;rw [xu] at h1 ⊢;exact h1.kept0 Gk.o)
 have Gx:Hid (zp w3 (.slice a2 2 c2) (qP bit 2)):=qI (by have h1:=Jf.o.1;unfold zp at h1 ⊢;rw [xu] at h1 ⊢;exact h1)
 go_wp2_with first
  | (go_at_call 104;refine (CT.o _ _ _ _ _ (Gc.o.then Gk.o) Mp.o Gx.o).mono ?_;rintro e w4 ⟨rfl,hk4⟩;have Gg:=qI hk4;have Gp:=qI (Gf.o.kept0 ((Gc.o.then Gk.o).then hk4));clear hk4)
  | (refine zq Wk (.tmp 8) (.tmp 30) Wk Gp.o (zJ _ _) Gd.o Wk Wk ?_;intro w5 h5 hk5;have H5:=qI h5;have Ge:=qI hk5;clear h5 hk5)
 have hres:=H5.o.var Gd.o
 refine bodyPost_ret (v:=.agg (sl.map bv).toArray) (by simp only [results,results72];simp [hres,Sem.run_bind,asAddr,Act.put]) rfl ⟨rfl,?_⟩
 exact (Gb.o.then ((Gc.o.then Gk.o).then Gg.o)).trans Ge.o (by intro i hi;simp at hi;subst hi;exact .inr (Nat.le_refl _))
theorem bU (w:World) (s:List UInt8) (hs:s.length=32) (hks:xN w) :
  CL w 71 #[.agg (s.map bv).toArray] (.agg ((zV s).map bv).toArray):=by
 obtain⟨W1,Ga⟩:∃ W1,Hid (W1=(w.alloc (.cells (s.map bv).toArray 45)).alloc (.cells z32 45)):=⟨_,qI rfl⟩
 have Gb:Hid (zb [] w W1):=qI (kA2 Ga.o)
 have Gf:Hid (zR W1 (w.heap.size+1) (xe zu 0)):=qI (by rw [Ga.o];exact zd Wz)
 have Gu:Hid (zR W1 w.heap.size s):=qI (by rw [Ga.o];exact ((zb.refl [] _).alloc _).heap (zd rfl) Wz)
 have CO:Hid (Calls Tryz.prog 82 #[.slice (some ⟨W1.heap.size,0,none⟩) 1 1] (W1.alloc (.cells #[.slice (some ⟨w.heap.size,0,none⟩) 32 32] 53)) fun e w'=>e = .returned (.agg ((zV s).map bv).toArray)∧zb [] W1 w'):=qI (by
  have hka:=(zb.refl [] W1).alloc (.cells #[.slice (some ⟨w.heap.size,0,none⟩) 32 32] 53)
  have hb:zp W1 (.slice (some ⟨w.heap.size,0,none⟩) 32 32) s:=⟨Wz,.inr (.inr ⟨_,0,32,by rw [hs],Ws,Wo,⟨Gu.o.range,Gu.o.lt⟩⟩)⟩
  have h1:=of_any _ W1.heap.size 0 1 [.slice (some ⟨w.heap.size,0,none⟩) 32 32] [s] (Qf W1 [.slice (some ⟨w.heap.size,0,none⟩) 32 32] _) ((zH.nil _).cons (hb.kept0 hka)) (by simp;omega) Wz ((hks.kept0 Gb.o).kept0 hka)
  rw [List.flatten_cons,List.flatten_nil,List.append_nil] at h1
  exact h1.mono fun e w' ⟨h6,h7⟩=>⟨h6,hka.then h7⟩)
 generalize hsl:zV s=sl at CO
 have Gd:Hid (sl.length=32):=qI (by rw [← hsl,yt])
 clear hs hks hsl
 go_enter func71,ntmps71
 go_upto_region 1 with fail
 refine yq Ga.o ?_
 go_wp2_with first
  | (go_at_call 82;refine CO.o.mono ?_;rintro e w4 ⟨rfl,hk4⟩;have Gg:=qI hk4;have Gp:=qI (Gf.o.kept0 hk4);clear hk4)
  | (refine zq Wk (.tmp 2) (.tmp 5) Wk Gp.o (zJ _ _) Gd.o Wk Wk ?_;intro w5 h5 hk5;have H5:=qI h5;have Ge:=qI hk5;clear h5 hk5)
 have hres:=H5.o.var Gd.o
 refine bodyPost_ret (v:=.agg (sl.map bv).toArray) (by simp only [results,results71];simp [hres,Sem.run_bind,asAddr,Act.put]) rfl ⟨rfl,?_⟩
 exact (Gb.o.then Gg.o).trans Ge.o (by intro i hi;simp at hi;subst hi;exact .inr Ws)
theorem Zt {W w:World}{p:Nat}{L:List UInt8}(h:qu W p w L) (hL:L.length≤1000000) (hks:xN w) :
  CL w 73 #[.pointer (some ⟨p,0,none⟩)] (.agg ((vF Kh [L]).map bv).toArray):=by
 obtain⟨a,c,h1,h2⟩:=h.val
 obtain⟨W1,Ga⟩:∃ W1,Hid (W1=w.alloc (.cells z32 45)):=⟨_,qI rfl⟩
 have Gb:Hid (zb [] w W1):=qI (kA1 Ga.o)
 have Gf:Hid (zR W1 w.heap.size (xe zu 0)):=qI (by rw [Ga.o];exact zd rfl)
 have CT:Hid (Calls Tryz.prog 104 #[.string ⟨#[108,97,109,112,111,114,116,32,107,101,121]⟩,.slice (some ⟨W1.heap.size,0,none⟩) 1 1] (W1.alloc (.cells #[.slice a L.length c] 53)) fun e w'=>e = .returned (.agg ((vF Kh [L]).map bv).toArray)∧zb [] W1 w'):=
  qI (tag_new ⟨#[108,97,109,112,111,114,116,32,107,101,121]⟩ W1 [.slice a L.length c] [L] ((zH.nil _).cons ((Slc.of_row h2).kept0 Gb.o)) (by simp;omega) Wo (Nat.succ_le_succ (Nat.zero_le _)) (hks.kept0 Gb.o))
 have c0:=za (o:=0) (Gb.o.heap h1 Wz) rfl
 generalize hsl:vF Kh [L]=sl at CT
 have Gd:Hid (sl.length=32):=qI (by rw [← hsl,j0])
 clear h h1 h2 hL hks hsl
 generalize L.length=ln at CT c0
 go_enter func73,ntmps73
 go_upto_region 1 with fail
 refine yq Ga.o ?_
 go_wp2_with first
  | (go_at_call 104;refine CT.o.mono ?_;rintro e w4 ⟨rfl,hk4⟩;have Gg:=qI hk4;have Gp:=qI (Gf.o.kept0 hk4);clear hk4)
  | (refine zq Wk (.tmp 2) (.tmp 8) Wk Gp.o (zJ _ _) Gd.o Wk Wk ?_;intro w5 h5 hk5;have H5:=qI h5;have Ge:=qI hk5;clear h5 hk5)
 have hres:=H5.o.var Gd.o
 refine bodyPost_ret (v:=.agg (sl.map bv).toArray) (by simp only [results,results73];simp [hres,Sem.run_bind,asAddr,Act.put]) rfl ⟨rfl,?_⟩
 exact (Gb.o.then Gg.o).trans Ge.o (by intro i hi;simp at hi;subst hi;exact .inr (Nat.le_refl _))
theorem JF {w:World}{a:Option Addr}{n c:Nat}(hn:n≤64) (leaf:Nat) (hl:leaf≤1073741824) :
  Calls Tryz.prog 69 #[.slice a n c,.int .i64 leaf] w fun e w'=>e = .returned (.bool true)∧w=w':=by
 have hnI:(n:Int)≤64:=Ws
 have hlI:(leaf:Int)≤1073741824:=Ws
 clear hn hl
 go_enter func69,ntmps69
 go_wp2_with fail
 go_ret
 exact⟨rfl,rfl⟩
theorem duo_len (seed:List UInt8) (leaf b:Nat):(Qu seed leaf b).length=64:=by rw [Qu,List.length_append,yt,yt]
theorem JR {α:Type}(f:Nat→List α) (n:Nat) (h:∀ b,(f b).length=n):∀ k,(((List.range k).map f).flatten).length=n*k
 | 0=>rfl
 | k+1=>by
  rw [List.range_succ,List.map_append,List.flatten_append,List.length_append,JR f n h k]
  simp [h,Nat.mul_add]
theorem jR {α:Type}(f:Nat→List α) (k:Nat):((List.range (k+1)).map f).flatten=((List.range k).map f).flatten++f k:=by
 rw [List.range_succ,List.map_append,List.flatten_append];simp
theorem lamLeaf_any {w:World}{a:Option Addr}{c:Nat}{seed:List UInt8}(hb:zp w (.slice a seed.length c) seed) (hs:seed.length≤64) (leaf:Nat) (hl:leaf≤1000) (hks:xN w) :
  CL w 37 #[.slice a seed.length c,.int .i64 leaf,.int .i64 8] (.tuple #[.agg ((ZL seed leaf 8).map bv).toArray,.int .i64 0]):=by
 obtain⟨W1,Ga⟩:∃ W1,Hid (W1=w.alloc (.cells z32 45)):=⟨_,qI rfl⟩
 have Gb:Hid (zb [] w W1):=qI (kA1 Ga.o)
 have Gf:Hid (zR W1 w.heap.size (xe zu 0)):=qI (by rw [Ga.o];exact zd rfl)
 have CM:Hid (Calls Tryz.prog 68 #[.int .i64 8] W1 fun e w'=>e = .returned (.bool true)∧W1=w'):=qI (jU 8 Wo Wo W1)
 have CK:=qI (JF (w:=W1) (a:=a) (c:=c) hs leaf Ws)
 have HS:=qI hs
 have HB:=qI (hb.kept0 Gb.o)
 have Gj:=qI (hks.kept0 Gb.o)
 have CS:Hid (∀ (w3:World) (b side:Nat),zb [] W1 w3→b<8→side<2→Calls Tryz.prog 72 #[.slice a seed.length c,.int .i64 leaf,.int .i64 b,.int .i64 side] w3 fun e w'=>e = .returned (.agg ((zZ seed leaf b side).map bv).toArray)∧zb [] w3 w'):=qI (fun w3 b side hk h1 h2=>JL (HB.o.kept0 hk) HS.o leaf b side Ws Ws Ws (Gj.o.kept0 hk))
 clear hb hs hl hks
 go_enter func37,ntmps37
 go_upto_region 1 with fail
 refine yq Ga.o ?_
 generalize hsn:seed.length=sn at CK CS
 go_wp2_with first
  | (go_at_call 68;refine CM.o.mono ?_;rintro e w' ⟨rfl,rfl⟩)
  | (go_at_call 69;refine CK.o.mono ?_;rintro e w' ⟨rfl,rfl⟩)
 obtain⟨W2,Jw⟩:∃ W2,Hid (W2=W1.alloc (.cells #[.slice none 0 0] 109)):=⟨_,qI rfl⟩
 have Mq:Hid (qu W1 W1.heap.size W2 []):=qI (by rw [Jw.o];exact sumsNew W1)
 rw [← Jw.o]
 go_loopw [9,23] (fun _ i wr=>∃ k:Nat,i = .int .i64 k∧k≤8∧qu W1 W1.heap.size wr ((List.range k).map (Qu seed leaf)).flatten) (fun _ i _=>8-(intOf i).toNat)
 case atStart=>exact⟨0,rfl,Nat.zero_le _,Mq.o⟩
 case round=>
  obtain⟨k,rfl,hk,hsm⟩:=hrel
  have Gi:=qI hsm
  have Jx:=qI (JR (Qu seed leaf) 64 (duo_len seed leaf) k)
  have Mr:=qI (jR (Qu seed leaf) k)
  clear hsm
  rcases Nat.lt_or_ge k 8 with h8 | h8
  ·have h8I:(k:Int)<8:=by omega
   have CS0:=qI (CS.o wr k 0 Gi.o.kept h8 Wo)
   have CS1:Hid (Cq wr 72 #[.slice a sn c,.int .i64 leaf,.int .i64 k,.int .i64 1] (.agg ((zZ seed leaf k 1).map bv).toArray)):=qI (fun w3 hk3=>CS.o w3 k 1 (Gi.o.kept.then hk3) h8 Wo)
   have CU0:Hid (Cq wr 71 #[.agg ((zZ seed leaf k 0).map bv).toArray] (.agg ((zV (zZ seed leaf k 0)).map bv).toArray)):=qI (fun w3 hk3=>bU w3 _ (jY _ _ _ _) ((Gj.o.kept0 Gi.o.kept).kept0 hk3))
   have CU1:Hid (Cq wr 71 #[.agg ((zZ seed leaf k 1).map bv).toArray] (.agg ((zV (zZ seed leaf k 1)).map bv).toArray)):=qI (fun w3 hk3=>bU w3 _ (jY _ _ _ _) ((Gj.o.kept0 Gi.o.kept).kept0 hk3))
   have CA:Hid (∀ w3,zb [] wr w3→Calls Tryz.prog 70 #[.pointer (some ⟨W1.heap.size,0,none⟩),.agg ((zV (zZ seed leaf k 0)).map bv).toArray,.agg ((zV (zZ seed leaf k 1)).map bv).toArray] w3 fun e w'=>e = .returned (.tuple #[])∧qu W1 W1.heap.size w' ((List.range (k+1)).map (Qu seed leaf)).flatten):=qI (fun w3 hk3=>by
    have h1:=vN (Gi.o.kept0 hk3) (yt (zZ seed leaf k 0)) (yt (zZ seed leaf k 1)) (by have:=Jx.o;omega)
    rw [Mr.o,Qu,← List.append_assoc]
    exact h1)
   generalize zV (zZ seed leaf k 0)=u0 at CU0 CA
   generalize zV (zZ seed leaf k 1)=u1 at CU1 CA
   generalize zZ seed leaf k 0=s0 at CS0 CU0
   generalize zZ seed leaf k 1=s1 at CS1 CU1
   go_wp2_with first
    | (go_at_call 70;refine (CA.o _ (((Gy.o.then Jg.o).then Jy.o).then Ms.o)).mono ?_;rintro e w7 ⟨rfl,h7⟩;have H7:=qI h7;clear h7)
    | (go_at_call 71;refine (CU1.o _ ((Gy.o.then Jg.o).then Jy.o)).mono ?_;rintro e w6 ⟨rfl,h6⟩;have Ms:=qI h6;clear h6)
    | (go_at_call 72;refine (CS1.o _ (Gy.o.then Jg.o)).mono ?_;rintro e w5 ⟨rfl,h5⟩;have Jy:=qI h5;clear h5)
    | (go_at_call 71;refine (CU0.o _ Gy.o).mono ?_;rintro e w4 ⟨rfl,h4⟩;have Jg:=qI h4;clear h4)
    | (go_at_call 72;refine CS0.o.mono ?_;rintro e w3 ⟨rfl,h3⟩;have Gy:=qI h3;clear h3)
   case roundEnd=>exact⟨⟨k+1,by go_num,Ws,H7.o⟩,by simp [intOf];omega⟩
  ·obtain rfl:k=8:=by omega
   have CD:Hid (Cz wr 73 #[.pointer (some ⟨W1.heap.size,0,none⟩)] (.agg ((ZL seed leaf 8).map bv).toArray)):=qI (Zt Gi.o (by have:=Jx.o;omega) (Gj.o.kept0 Gi.o.kept))
   generalize hsl:ZL seed leaf 8=sl at CD
   have Gd:Hid (sl.length=32):=qI (by rw [← hsl,kJ])
   have Mt:=qI (Gf.o.kept0 Gi.o.kept)
   have Mu:=qI hsl
   clear hsl
   go_wp2_with first
    | (go_at_call 73;refine CD.o.mono ?_;rintro e w4 ⟨rfl,hk4⟩;have Gg:=qI hk4;have Gp:=qI (Mt.o.kept0 hk4);clear hk4)
    | (refine zq Wk (.tmp 6) (.tmp 40) Wk Gp.o (zJ _ _) Gd.o Wk Wk ?_;intro w5 h5 hk5;have H5:=qI h5;have Ge:=qI hk5;clear h5 hk5)
   have hres:=H5.o.var Gd.o
   refine bodyPost_ret (v:=.tuple #[.agg (sl.map bv).toArray,.int .i64 0]) (by simp only [results,results37];simp [hres,Sem.run_bind,asAddr,Act.put]) rfl ⟨by rw [Mu.o],?_⟩
   exact ((Gb.o.then Gi.o.kept).then Gg.o).trans Ge.o (by intro i hi;simp at hi;subst hi;exact .inr (Nat.le_refl _))
theorem YE:yU Tryz.prog 73 45 32 32 (.agg z32):=⟨underlying73,Wr,rfl,Wo⟩
theorem Ks {cs:List Value}{n:Nat}(h:cs.length=n) (hn:0<n) (z:Value):Instr.fill (fun i=>some (i*n,n)) ((Array.range (1*n)).map (z.cells[· % z.cells.size]!)) [(0,.agg cs.toArray)]=some cs.toArray:=by
 have hs:cs.toArray.size=n:=by simp [h]
 obtain⟨r,h1,h2,h3⟩:=Go.Great.fill_dense (s:=n) hn [.agg cs.toArray] 0 ((Array.range (1*n)).map (z.cells[· % z.cells.size]!)) (by intro v hv;simp only [List.mem_singleton] at hv;subst hv;exact hs) Wz
 refine h1.trans (congrArg some (Array.ext_getElem? fun i=>?_))
 rw [h3 i]
 by_cases hi:i<n
 ·rw [if_pos (by simp;omega),show i/n-0=0 by rw [Nat.div_eq_of_lt hi],show i%n=i from Nat.mod_eq_of_lt hi]
  rfl
 ·rw [if_neg (by simp;omega),Array.getElem?_eq_none (by rw [Array.size_map,Array.size_range];omega),Array.getElem?_eq_none (by rw [hs];omega)]
theorem yB {t e n:Nat}(hu:Tryz.prog.underlying t=some (.slice e)) (hi:(Tryz.prog.info? e).map (·.size)=some n) (hz:((Tryz.prog.info? e).bind (·.zero)).isSome=true) (hn:0<n) (hm:n≤1000) {ops:Array Oper}{rest:List Oper}{op:Oper}{a:Act}{w:World}{Q:Exit→Act→World→Prop}(hgd:op.guard=none) (x:Operand) (ho:op.op = .buildSlice t 1 #[(0,x)]) {cs:List Value}(hl:cs.length=n)
  (hx:a.eval x = .agg cs.toArray) (h:wpList Tryz.prog ops Q rest (a.put op.dst (.slice (some ⟨w.heap.size,0,none⟩) 1 1)) (w.alloc (.cells cs.toArray e))):wpList Tryz.prog ops Q (op::rest) a w:=by
 obtain⟨ie,hie⟩:∃ ie,Tryz.prog.info? e=some ie:=by
  cases h9:Tryz.prog.info? e with
  | none=>rw [h9] at hi;cases hi
  | some ie=>exact⟨ie,rfl⟩
 have hsz:ie.size=n:=by
  rw [hie] at hi
  simpa using hi
 obtain⟨z,hz⟩:∃ z,ie.zero=some z:=by
  rw [hie] at hz
  exact Option.isSome_iff_exists.1 hz
 exact wpList_buildSlice hgd _ _ 1 #[(0,x)] ho cs.toArray ie z hu hie hz (by rw [hsz];omega) (by rw [hsz];have:(2:Nat) ^ 24=16777216:=rfl;omega) (by
  have h1:=Ks hl hn z
  simp only [List.map_toArray,List.map_cons,List.map_nil,hx,hsz]
  exact h1) h
theorem jx:((Tryz.prog.info? 45).bind (·.zero)).isSome=true:=Wr
structure qW (W:World) (g:Nat) (w:World) (a1:Option Addr) (c1:Nat) (a2:Option Addr) (c2:Nat) (r o:List (List UInt8)):Prop where
 kept:zb [] W w
 new_:W.heap.size≤g
 box:w.heap[g]? = some (.cells #[.slice a1 r.length c1,.slice a2 o.length c2] 80 (0,0))
 rev:w.ownsRow W.heap.size 45 32 (.slice a1 r.length c1) r.length (r.flatten.map bv)
 oth:w.ownsRow W.heap.size 45 32 (.slice a2 o.length c2) o.length (o.flatten.map bv)
 apart:∀ b,(Value.slice a1 r.length c1).ownBlock=some b→(Value.slice a2 o.length c2).ownBlock≠some b
theorem qW.kept0 {W w w':World}{g:Nat}{a1:Option Addr}{c1:Nat}{a2:Option Addr}{c2:Nat}{r o:List (List UInt8)}(h:qW W g w a1 c1 a2 c2 r o) (k:zb [] w w'):qW W g w' a1 c1 a2 c2 r o:=
 ⟨h.kept.then k,h.new_,k.heap h.box Wz,zo h.rev k Wz,zo h.oth k Wz,h.apart⟩
theorem qW.lt {W w:World}{g:Nat}{a1:Option Addr}{c1:Nat}{a2:Option Addr}{c2:Nat}{r o:List (List UInt8)}(h:qW W g w a1 c1 a2 c2 r o):g<w.heap.size:=lt_of_block h.box
theorem out_new (w:World):qW w w.heap.size (w.alloc (.cells #[.slice none 0 0,.slice none 0 0] 80)) none 0 none 0 [] []:=
 ⟨(zb.refl _ w).alloc _,Nat.le_refl _,zd rfl,World.ownsRow_nil _ _ _ _,World.ownsRow_nil _ _ _ _,fun _ h=>nomatch h⟩
theorem qW.push0 {W w w':World}{g:Nat}{a1:Option Addr}{c1:Nat}{a2:Option Addr}{c2:Nat}{r o:List (List UInt8)}(h:qW W g w a1 c1 a2 c2 r o) {x:List UInt8}{a5:Option Addr}{c5:Nat}
  (hown:w'.ownsRow W.heap.size 45 32 (.slice a5 (r.length+1) c5) (r.length+1) (r.flatten.map bv++x.map bv)) (hk:zb (Value.slice a1 r.length c1).ownBlock.toList w w') (hb:(Value.slice a5 (r.length+1) c5).ownBlock=(Value.slice a1 r.length c1).ownBlock∨(Value.slice a5 (r.length+1) c5).ownBlock=some w.heap.size) :
  w'.cell? ⟨g,0,none⟩=some (.slice a1 r.length c1)∧w'.frozen? ⟨g,0,none⟩=false∧qW W g (w'.setCell ⟨g,0,none⟩ (.slice a5 (r.length+1) c5)) a5 c5 a2 c2 (r++[x]) o:=by
 have hng:g ∉ (Value.slice a1 r.length c1).ownBlock.toList:=fun hx=>xt (yp h.rev (Option.mem_toList.1 hx)) (zM h.box) Wo rfl
 have hb8:=hk.heap h.box hng
 have hst:zb [g] w' (w'.setCell ⟨g,0,none⟩ (.slice a5 (r.length+1) c5)):=Wd.setCell (.inl Wz) _
 have hg2:∀ b,(Value.slice a2 o.length c2).ownBlock=some b→b ∉ (Value.slice a1 r.length c1).ownBlock.toList:=fun b e hx=>h.apart b (Option.mem_toList.1 hx) e
 have hel:(r++[x]).length=r.length+1:=Wz
 have hef:((r++[x]).flatten).map bv=r.flatten.map bv++x.map bv:=Wz
 refine⟨za hb8 rfl,zh hb8,⟨?_,h.new_,?_,?_,?_,?_⟩⟩
 ·exact ((h.kept.trans hk (fun i hi=>.inr (h.rev.lt i (Option.mem_toList.1 hi)).1))).setCell (.inr h.new_) _
 ·rw [hel];exact zg hb8 rfl
 ·rw [hel,hef]
  exact zo hown hst (fun b e hx=>by
   simp at hx;subst hx
   exact xt (yp hown e) (zM hb8) Wo rfl)
 ·exact zo (zo h.oth hk hg2) hst (fun b e hx=>by
   simp at hx;subst hx
   exact xt (yp (zo h.oth hk hg2) e) (zM hb8) Wo rfl)
 ·intro b e1 e2
  rw [hel] at e1
  rcases hb with hb | hb
  ·exact h.apart b (hb ▸ e1) e2
  ·rw [hb] at e1
   have:=(h.oth.lt b e2).2
   cases e1
   omega
theorem qW.push1 {W w w':World}{g:Nat}{a1:Option Addr}{c1:Nat}{a2:Option Addr}{c2:Nat}{r o:List (List UInt8)}(h:qW W g w a1 c1 a2 c2 r o) {x:List UInt8}{a5:Option Addr}{c5:Nat}
  (hown:w'.ownsRow W.heap.size 45 32 (.slice a5 (o.length+1) c5) (o.length+1) (o.flatten.map bv++x.map bv)) (hk:zb (Value.slice a2 o.length c2).ownBlock.toList w w') (hb:(Value.slice a5 (o.length+1) c5).ownBlock=(Value.slice a2 o.length c2).ownBlock∨(Value.slice a5 (o.length+1) c5).ownBlock=some w.heap.size) :
  w'.cell? ⟨g,1,none⟩=some (.slice a2 o.length c2)∧w'.frozen? ⟨g,1,none⟩=false∧qW W g (w'.setCell ⟨g,1,none⟩ (.slice a5 (o.length+1) c5)) a1 c1 a5 c5 r (o++[x]):=by
 have hng:g ∉ (Value.slice a2 o.length c2).ownBlock.toList:=fun hx=>xt (yp h.oth (Option.mem_toList.1 hx)) (zM h.box) Wo rfl
 have hb8:=hk.heap h.box hng
 have hst:zb [g] w' (w'.setCell ⟨g,1,none⟩ (.slice a5 (o.length+1) c5)):=Wd.setCell (.inl Wz) _
 have hg2:∀ b,(Value.slice a1 r.length c1).ownBlock=some b→b ∉ (Value.slice a2 o.length c2).ownBlock.toList:=fun b e hx=>h.apart b e (Option.mem_toList.1 hx)
 have hel:(o++[x]).length=o.length+1:=Wz
 have hef:((o++[x]).flatten).map bv=o.flatten.map bv++x.map bv:=Wz
 refine⟨za hb8 rfl,zh hb8,⟨?_,h.new_,?_,?_,?_,?_⟩⟩
 ·exact ((h.kept.trans hk (fun i hi=>.inr (h.oth.lt i (Option.mem_toList.1 hi)).1))).setCell (.inr h.new_) _
 ·rw [hel];exact zg hb8 rfl
 ·exact zo (zo h.rev hk hg2) hst (fun b e hx=>by
   simp at hx;subst hx
   exact xt (yp (zo h.rev hk hg2) e) (zM hb8) Wo rfl)
 ·rw [hel,hef]
  exact zo hown hst (fun b e hx=>by
   simp at hx;subst hx
   exact xt (yp hown e) (zM hb8) Wo rfl)
 ·intro b e1 e2
  rw [hel] at e2
  rcases hb with hb | hb
  ·exact h.apart b e1 (hb ▸ e2)
  ·rw [hb] at e2
   have:=(h.rev.lt b e1).2
   cases e2
   omega
end Go.Proofs.YtibnfbglanpoiaaGreatDoor

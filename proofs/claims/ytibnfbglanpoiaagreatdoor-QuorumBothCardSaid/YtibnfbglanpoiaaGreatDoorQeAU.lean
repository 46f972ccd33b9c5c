/- Parts of one proof, merged: XFF. -/
import Derived.Test.YtibnfbglanpoiaaGreatDoorQeAK
set_option linter.all false
set_option maxHeartbeats 12800000
set_option maxRecDepth 10000
namespace Go.Proofs.YtibnfbglanpoiaaGreatDoor
open Go.Proofs.Tryz
open Go.RowKit
theorem KU {w:World}{am:Option Addr}{cm:Nat}{m:List UInt8}(hbm:zp w (.slice am m.length cm) m) (hm:m.length≤1048576) {s:ZD}{a1 a2:Option Addr}{c1 c2 n:Nat}(hn:s.rev.length=n) (hn2:s.oth.length=n) (hr32:yC s.rev) (ho32:yC s.oth) (hs1:Slc w 32 (.slice a1 n c1) n (s.rev.flatten.map bv)) (hs2:Slc w 32 (.slice a2 n c2) n (s.oth.flatten.map bv)) (hmb:yv n=true) :
  CL w 159 #[.slice am m.length cm,.agg #[.slice a1 n c1,.slice a2 n c2]] (.tuple #[.agg ((xG m s).map bv).toArray,.int .i64 0]):=by
 have hn8:8≤n∧n≤256:=by
  unfold yv at hmb
  simp only [Bool.and_eq_true,decide_eq_true_eq] at hmb
  omega
 obtain⟨g1,o1,rfl,-,hr1⟩:=xy hs1 Ws
 obtain⟨g2,o2,rfl,-,hr2⟩:=xy hs2 Ws
 obtain⟨W1,Gs⟩:∃ W1,Hid (W1=(w.alloc (.cells #[.slice (some ⟨g1,o1,none⟩) n c1,.slice (some ⟨g2,o2,none⟩) n c2] 80)).alloc (.cells z32 45)):=⟨_,qI rfl⟩
 have Gj:Hid (zb [] w W1):=qI (kA2 Gs.o)
 have Gk:Hid (W1.heap[w.heap.size]? = some (.cells #[.slice (some ⟨g1,o1,none⟩) n c1,.slice (some ⟨g2,o2,none⟩) n c2] 80 (0,0))):=qI (by rw [Gs.o];exact ((zb.refl [] _).alloc _).heap (zd rfl) Wz)
 have Jo:Hid (zR W1 (w.heap.size+1) (xe zu 0)):=qI (by rw [Gs.o];exact zd Wz)
 have f0:=za (o:=0) Gk.o rfl
 have f1:=za (o:=1) Gk.o rfl
 have CM:Hid (Calls Tryz.prog 85 #[.int .i64 n] W1 fun e w'=>e = .returned (.bool true)∧W1=w'):=qI (by have h1:=vg n Ws Ws W1;rw [hmb] at h1;exact h1)
 have CS:Hid (Calls Tryz.prog 194 #[.slice am m.length cm,.int .i64 n] W1 fun e w'=>(∃ q d,e = .returned (.slice q n d)∧Slc w' 1 (.slice q n d) n ((List.range n).map (sv (kh m))))∧zb [] W1 w'):=qI (refSides_any (hbm.kept0 Gj.o) hm n hn8.2)
 have Gd:=qI (hr1.kept Gj.o Wz)
 have Ge:=qI (hr2.kept Gj.o Wz)
 have Gw:Hid (g2<W1.heap.size):=qI (hr2.kept Gj.o Wz).lt
 have hw1:Hid (w.heap.size<W1.heap.size):=qI (lt_of_block Gk.o)
 have HM:Hid (∀ b,bA m s b=if yT (kh m) b=0 then zV (s.rev.getD b [])++s.oth.getD b [] else s.oth.getD b []++zV (s.rev.getD b [])):=qI (fun _=>rfl)
 have Jp:Hid (xG m s=vF Kh [((List.range n).map (bA m s)).flatten]):=qI (by unfold xG;rw [hn])
 have Jq:Hid (∀ k,k≤n→(((List.range k).map (bA m s)).flatten).length=64*k):=qI (fun k hk=>KN hr32 ho32 Ws k Ws)
 have Gl:Hid (∀ k,yT (kh m) k<2):=qI (fun k=>ZW _ _)
 have Jr:=qI hn
 have Js:=qI hn2
 have H32:=qI (And.intro hr32 ho32)
 have hnI:(n:Int)≤256:=Ws
 have hmI:(m.length:Int)≤1048576:=Ws
 have Jg:=qI hn8
 clear hbm hm hs1 hs2 hmb hr1 hr2 hr32 ho32 hn hn2 hn8
 generalize hmn:m.length=mn at CS hmI
 generalize kh m=md at CS HM Gl
 go_enter func159,ntmps159
 go_upto_region 1 with fail
 refine yq Gs.o ?_
 go_upto_region 7 with first
  | (go_at_call 85;refine CM.o.mono ?_;rintro e w' ⟨rfl,rfl⟩)
  | (go_at_call 194;refine CS.o.mono ?_;rintro e ws ⟨⟨sq,sc,rfl,hsd⟩,hk3⟩;have Jt:=qI hsd;have Gh:=qI hk3;clear hk3 hsd)
 have c1':=Gh.o.cell f0 Wz
 clear f0
 go_wp2_with fail
 go_loopw [6,8,9] (fun al idx _ wr=>∃ (k M:Nat) (q:Option Addr) (z:Nat),idx = .int .i64 k∧al = .slice q M z∧k≤n∧Hid (M=64*k)∧Hid (wr.ownsRow ws.heap.size 5 1 (.slice q M z) M ((((List.range k).map (bA m s)).flatten).map bv))∧Hid (zb [] ws wr)) (fun _ idx _ _=>n-(intOf idx).toNat)
 case atStart=>exact⟨0,0,none,0,rfl,rfl,Nat.zero_le _,qI rfl,qI (World.ownsRow_nil _ _ _ _),qI Wd⟩
 case round=>
  obtain⟨k,M,q,z,rfl,rfl,hk,Gi,Gx,Gt⟩:=hrel
  have Gb:Hid (zb [] W1 wr):=qI (Gh.o.then Gt.o)
  clear c1'
  have f0:=Gb.o.cell (za (o:=0) Gk.o rfl) Wz
  have f1r:=Gb.o.cell f1 Wz
  rcases Nat.lt_or_ge k n with h8 | h8
  ·have h8I:(k:Int)<n:=by omega
   have Gm:=qI h8
   have hkr:k<s.rev.length:=by rw [Jr.o];exact h8
   have hko:k<s.oth.length:=by rw [Js.o];exact h8
   have Jh:Hid (wr.rangeAt g1 (o1+k*32) (s.rev[k].map bv)):=qI (Qk (Gd.o.kept Gb.o Wz) H32.o.1 k hkr)
   have Ji:Hid (wr.rangeAt g2 (o2+k*32) (s.oth[k].map bv)):=qI (Qk (Ge.o.kept Gb.o Wz) H32.o.2 k hko)
   have Ju:=qI (Gd.o.kept Gb.o Wz).lt
   have Jv:=qI (Ge.o.kept Gb.o Wz).lt
   have Gn:Hid (s.rev[k].length=32):=qI (H32.o.1 _ (List.getElem_mem _))
   have Jj:Hid (s.oth[k].length=32):=qI (H32.o.2 _ (List.getElem_mem _))
   have Gf:Hid (bA m s k=if yT md k=0 then zV s.rev[k]++s.oth[k] else s.oth[k]++zV s.rev[k]):=qI (by
    rw [HM.o,List.getD,List.getElem?_eq_getElem hkr,List.getD,List.getElem?_eq_getElem hko];rfl)
   have Jk:=qI (jR (bA m s) k)
   have Gy:=qI (Gl.o k)
   obtain⟨gs,os,rfl,-,hrs⟩:=xy Jt.o Ws
   have s0:=hrs.at (j:=k) (by simpa using h8)
   rw [List.getElem_map,List.getElem_range] at s0
   unfold sv at s0
   have s1:=Gt.o.cell s0 Wz
   clear s0 hrs
   generalize s.rev[k]=x1 at Jh Gn Gf
   generalize s.oth[k]=y1 at Ji Jj Gf
   generalize yT md k=sd at s1 Gf Gy
   have CO:Hid (Cz wr 47 #[.slice (some ⟨g1,o1+k*32,none⟩) 32 32] (.agg ((zV x1).map bv).toArray)):=qI (by
    have h1:=YT wr (some ⟨g1,o1+k*32,none⟩) 32 x1 ⟨Wz,.inr (.inr ⟨_,_,32,by rw [Gn.o],by rw [Gn.o];exact Nat.le_refl _,Wo,⟨Jh.o,Ju.o⟩⟩)⟩ (by rw [Gn.o];decide)
    rw [Gn.o] at h1
    exact h1)
   have Gz:Hid ((zV x1).length=32):=qI (yt _)
   generalize zV x1=u1 at CO Gf Gz
   clear hkr hko h8 hk
   go_upto_region 11 with first
    | (go_at_call 47;refine CO.o.mh ?_;rintro e w5 rfl Gu)
    | (refine zq Wk (.tmp 9) (.tmp 46) Wk (g:=w5.heap.size) (l0:=xe zu 0) (zd rfl) (zJ _ _) Gz.o Wk Wk ?_;intro w6 h6 hk6;have Ja:=qI h6;have Ga:Hid (zb [] wr w6):=qI (Gu.o.then (((zb.refl [] w5).alloc _).trans hk6 (by intro i hi;simp at hi;subst hi;exact .inr (Nat.le_refl _))));clear h6 hk6;simp only [Act.put])
   have s2:=Ga.o.cell s1 Wz
   have f2:=Ga.o.cell f1r Wz
   have Gc:=qI (zo Gx.o Ga.o Wz)
   have Jb:Hid (Slc w6 1 (.slice (some ⟨w5.heap.size,0,none⟩) 32 32) 32 (u1.map bv)):=qI ⟨by simp [Gz.o],.inr (.inr ⟨_,0,32,rfl,Nat.le_refl _,Wo,⟨Ja.o.range,Ja.o.lt⟩⟩)⟩
   have Jl:Hid (Slc w6 1 (.slice (some ⟨g2,o2+k*32,none⟩) 32 32) 32 (y1.map bv)):=qI ⟨by simp [Jj.o],.inr (.inr ⟨_,_,32,rfl,Nat.le_refl _,Wo,⟨fun j v hv=>Ga.o.cell (Ji.o j v hv) Wz,Nat.lt_of_lt_of_le Jv.o Ga.o.size⟩⟩)⟩
   have Gp:=qI ((Gb.o.then Ga.o).heap Gk.o Wz)
   clear f0 f1r s1
   have Gv:Hid (∀ x,(Value.slice q M z).ownBlock=some x→(x=w.heap.size∨x=g2∨wr.heap.size≤x)→False):=qI (fun x hx h9=>by
    have h1:=Gx.o.lt x hx
    have h2:=Gw.o
    have h3:=Gh.o.size
    have h4:=hw1.o
    omega)
   have Jm:Hid (∀ g,zW (.slice (some ⟨w5.heap.size,0,none⟩) 32 32)=some g→(g=w.heap.size∨g=g2∨wr.heap.size≤g)):=qI (fun g hg=>by simp [zW] at hg;subst hg;exact .inr (.inr Gu.o.size))
   have Jw:Hid (∀ g,zW (.slice (some ⟨g2,o2+k*32,none⟩) 32 32)=some g→(g=w.heap.size∨g=g2∨wr.heap.size≤g)):=qI (fun g hg=>by simp [zW] at hg;subst hg;exact .inr (.inl rfl))
   have Gg:Hid (M≤20000):=qI (by have:=Gi.o;have:=Gm.o;have:=Jg.o;omega)
   have Jn:Hid (ws.heap.size≤w6.drew.heap.size):=qI (Gt.o.then Ga.o).drew.size
   have Ga:=qI (Gt.o.then Ga.o)
   generalize w5.heap.size=bx at Jb Ja Jm ⊢
   have hsd:sd=0∨sd=1:=by have:=Gy.o;omega
   clear Gy
   rcases hsd with rfl | rfl
   ·rw [if_pos rfl] at Gf
    go_upto_region 12 with fail
    go_region_law (first
     | (refine yR xV Gq.o Jc.o (yL _) Wo (by have:=Gg.o;simp only [maxLen];omega) (by have:=Gg.o;omega) Gr.o.size Wk _ _ Wk Wk Wk ?_;intro gb cb wb hown hk _;have Jd:=qI hown;have Je:=qI (Gr.o.trans hk (fun x hx=>.inr (Gq.o.lt x (Option.mem_toList.1 hx)).1));clear hown hk)
     | (refine yR xV Gc.o.drew Jb.o.drew (yL _) Wo (by have:=Gg.o;simp only [maxLen];omega) (by have:=Gg.o;omega) Jn.o Wk _ _ Wk Wk Wk ?_;intro ga ca wa hown hk _;have Gq:=qI hown;have Gr:Hid (zb [] ws wa):=qI (Ga.o.drew.trans hk (fun x hx=>.inr (Gc.o.lt x (Option.mem_toList.1 hx)).1));have Jc:=qI (Jl.o.drew.kept hk (fun g hg hx=>Gv.o g (Option.mem_toList.1 hx) (Jw.o g hg)));have f3:=za (o:=1) (hk.heap (show w6.drew.heap[w.heap.size]? = _ from Gp.o) (fun hx=>Gv.o _ (Option.mem_toList.1 hx) (.inl rfl))) rfl;clear hown hk))
    all_goals go_wp2_with fail
    all_goals exact⟨⟨k+1,M+32+32,some ⟨gb,0,none⟩,cb,by go_num,rfl,Gm.o,qI (by have:=Gi.o;omega),qI (by rw [Jk.o,Gf.o,← List.append_assoc,List.map_append,List.map_append];exact Jd.o),qI Je.o⟩,by have:=Gm.o;simp [intOf];omega⟩
   ·rw [if_neg Wo] at Gf
    go_upto_region 13 with fail
    go_region_law (first
     | (refine yR xV Gq.o Jc.o (yL _) Wo (by have:=Gg.o;simp only [maxLen];omega) (by have:=Gg.o;omega) Gr.o.size Wk _ _ Wk Wk Wk ?_;intro gb cb wb hown hk _;have Jd:=qI hown;have Je:=qI (Gr.o.trans hk (fun x hx=>.inr (Gq.o.lt x (Option.mem_toList.1 hx)).1));clear hown hk)
     | (refine yR xV Gc.o.drew Jl.o.drew (yL _) Wo (by have:=Gg.o;simp only [maxLen];omega) (by have:=Gg.o;omega) Jn.o Wk _ _ Wk Wk Wk ?_;intro ga ca wa hown hk _;have Gq:=qI hown;have Gr:Hid (zb [] ws wa):=qI (Ga.o.drew.trans hk (fun x hx=>.inr (Gc.o.lt x (Option.mem_toList.1 hx)).1));have Jc:=qI (Jb.o.drew.kept hk (fun g hg hx=>Gv.o g (Option.mem_toList.1 hx) (Jm.o g hg)));have f3:=za (o:=1) (hk.heap (show w6.drew.heap[w.heap.size]? = _ from Gp.o) (fun hx=>Gv.o _ (Option.mem_toList.1 hx) (.inl rfl))) rfl;clear hown hk))
    all_goals go_wp2_with fail
    all_goals exact⟨⟨k+1,M+32+32,some ⟨gb,0,none⟩,cb,by go_num,rfl,Gm.o,qI (by have:=Gi.o;omega),qI (by rw [Jk.o,Gf.o,← List.append_assoc,List.map_append,List.map_append];exact Jd.o),qI Je.o⟩,by have:=Gm.o;simp [intOf];omega⟩
  ·obtain rfl:k=n:=by omega
   have CD:Hid (Cz wr 195 #[.slice q M z] (.agg ((xG m s).map bv).toArray)):=qI (by
    rw [Jp.o]
    have h2:=Jq.o k (Nat.le_refl _)
    have h1:=refDigest_any (w:=wr) (a:=q) (c:=z) (m:=(((List.range k).map (bA m s)).flatten)) (by
     rw [h2,← Gi.o]
     unfold zp
     rw [h2,← Gi.o]
     exact Slc.of_row Gx.o) (by have:=Jg.o;omega)
    rw [h2,← Gi.o] at h1
    exact h1)
   have Jf:Hid ((xG m s).length=32):=qI (kK _ _)
   generalize hse:xG m s=sl at CD Jf
   have Jx:=qI hse
   clear hse
   have Jy:=qI (Jo.o.kept0 Gb.o)
   clear h8 hk f1r
   go_wp2_with first
    | (go_at_call 195;refine CD.o.mono ?_;rintro e w4 ⟨rfl,hk4⟩;have Jz:=qI hk4;have Ma:=qI (Jy.o.kept0 hk4);clear hk4)
    | (refine zq Wk (.tmp 4) (.tmp 71) Wk Ma.o (zJ _ _) Jf.o Wk Wk ?_;intro w5 h5 hk5;have H5:=qI h5;have Gu:=qI hk5;clear h5 hk5)
   have hres:=H5.o.var Jf.o
   refine bodyPost_ret (v:=.tuple #[.agg (sl.map bv).toArray,.int .i64 0]) (by simp only [results,results159];simp [hres,Sem.run_bind,asAddr,Act.put]) rfl ⟨by rw [Jx.o],?_⟩
   exact ((Gj.o.then Gb.o).then Jz.o).trans Gu.o (by intro i hi;simp at hi;subst hi;exact .inr Ws)
end Go.Proofs.YtibnfbglanpoiaaGreatDoor

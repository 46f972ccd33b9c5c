/- Parts of one proof, merged: XID XIH. -/
import Derived.Test.YtibnfbglanpoiaaGreatDoorQcP
import Derived.Lib.ValidLaws
import Derived.Laws.Cover3
set_option linter.all false
set_option maxHeartbeats 12800000
set_option maxRecDepth 10000
set_option linter.unusedVariables false
set_option linter.unusedSimpArgs false
set_option linter.unnecessarySimpa false
namespace Go.Proofs.YtibnfbglanpoiaaGreatDoor
open Go.Proofs.Tryz
open Go.RowKit
theorem Qp {s:ByteArray}(h:∀ b,b ∈ s.data.toList→b.toNat < 128):zJ s=true:=by
 unfold zJ
 rw [Lib.validD_ascii s.data.toList.length _ (fun b hb=>h b (List.mem_of_mem_take hb)),List.drop_length]
 rfl
theorem hexd_low (n:Nat):xK (qg n)=true∨16≤n:=by
 rcases Nat.lt_or_ge n 16 with h | h
 ·refine .inl ?_
  have:∀ m:Fin 16,xK (qg m.val)=true:=by decide
  exact this ⟨n,h⟩
 ·exact .inr h
theorem low_128 {b:UInt8}(h:xK b=true):b.toNat < 128:=by
 have:∀ c:Fin 256,xK (UInt8.ofNat c.val)=true→(UInt8.ofNat c.val).toNat < 128:=by decide +kernel
 have h2:=this ⟨b.toNat,UInt8.toNat_lt b⟩
 simp only [UInt8.ofNat_toNat] at h2
 exact h2 h
theorem QP (l:List UInt8):∀ b,b ∈ kq l→xK b=true:=by
 intro b hb
 obtain⟨c,-,hc⟩:=List.mem_flatMap.1 hb
 have hc':=UInt8.toNat_lt c
 simp only [List.mem_cons,List.not_mem_nil,or_false] at hc
 rcases hc with rfl | rfl
 ·exact (hexd_low _).resolve_right (by omega)
 ·exact (hexd_low _).resolve_right (by omega)
theorem zan (l:List UInt8):(xU l).data.toList=kq l:=by rw [xU];exact xR _
theorem hexS_ok (l:List UInt8):zJ (xU l)=true:=Qp fun b hb=>low_128 (QP l b (by rwa [zan] at hb))
theorem J2:∀ (l:List UInt8),yO (kq l)=l
 | []=>rfl
 | c :: l=>by
  have h:∀ n:Fin 256,UInt8.ofNat (hv (qg ((UInt8.ofNat n.val).toNat / 16)) * 16 + hv (qg ((UInt8.ofNat n.val).toNat % 16)))=UInt8.ofNat n.val:=by decide +kernel
  have h1:=h ⟨c.toNat,UInt8.toNat_lt c⟩
  simp only [UInt8.ofNat_toNat] at h1
  have e:kq (c :: l)=qg (c.toNat / 16) :: qg (c.toNat % 16) :: kq l:=rfl
  rw [e,yO,J2 l,h1]
theorem vE (l:List UInt8):yB (xU l)=some l:=by
 unfold yB
 have e:(xU l).data.toList=kq l:=by simp [xU,yc]
 rw [if_pos ⟨by rw [qW];omega,by rw [e];exact List.all_eq_true.2 (QP l)⟩,e,J2]
theorem lits_ok:zJ ⟨#[98,105,116,115]⟩=true∧zJ ⟨#[104,101,105,103,104,116]⟩=true∧zJ ⟨#[112,117,98,108,105,99]⟩=true∧zJ ⟨#[107,101,121,116,121,112,101]⟩=true∧zJ ⟨#[115,99,104,101,109,101]⟩=true∧zJ ⟨#[107,101,121,118,97,108]⟩=true∧zJ ⟨#[108,97,109,112,111,114,116,45,109,101,114,107,108,101]⟩=true∧zJ ⟨#[115,104,97,50,53,54]⟩=true:=by
 refine⟨?_,?_,?_,?_,?_,?_,?_,?_⟩
 all_goals exact Qp (by decide)
theorem YL {n:Nat}(m:List (ByteArray × V n)) (h1:∀ p,p ∈ m→zJ p.1=true) (h2:(m.map (fun p=>p.1)).Nodup) (h3:∀ p,p ∈ m→zo n p.2=true):zo (n + 1) (Ze m:VS (V n))=true:=by
 have e:zo (n + 1) (Ze m:VS (V n))=(zv (Ze m) && (Ze m).kids.all (zo n)):=rfl
 rw [e,Bool.and_eq_true]
 refine⟨?_,?_⟩
 ·have e2:zv (Ze m:VS (V n))=(yY m && true && true && true):=rfl
  rw [e2,Bool.and_true,Bool.and_true,Bool.and_true,yY,decide_eq_true h2,Bool.and_true,List.all_eq_true]
  exact h1
 ·rw [List.all_eq_true]
  intro x hx
  obtain⟨p,hp,rfl⟩:=List.mem_map.1 (by simpa [VS.kids,Ze] using hx:x ∈ m.map (fun p=>p.2))
  exact h3 p hp
theorem jH {n:Nat}(s:ByteArray) (h:zJ s=true):zo (n + 1) (qE s:VS (V n))=true:=by
 have e:zo (n + 1) (qE s:VS (V n))=(zv (qE s:VS (V n)) && (qE s:VS (V n)).kids.all (zo n)):=rfl
 rw [e,Bool.and_eq_true]
 have e2:zv (qE s:VS (V n))=(zJ s && true && true && true):=rfl
 exact⟨by rw [e2,h];rfl,rfl⟩
theorem J3 {n:Nat}(z:Int) (h0:-9007199254740991≤z) (h1:z≤9007199254740991):zo (n + 1) (YA z:VS (V n))=true:=by
 have e:zo (n + 1) (YA z:VS (V n))=(zv (YA z:VS (V n)) && (YA z:VS (V n)).kids.all (zo n)):=rfl
 rw [e,Bool.and_eq_true]
 have e2:zv (YA z:VS (V n))=(decide (-9007199254740991≤z∧z≤9007199254740991) && true && true && true):=rfl
 exact⟨by rw [e2,decide_eq_true ⟨h0,h1⟩];rfl,rfl⟩
theorem Zt (k:zP) (h:zK k=true):yC 3 (qG k)=0:=by
 unfold zK yA at h
 simp only [Bool.and_eq_true,decide_eq_true_eq] at h
 obtain⟨l1,l2,l3,l4,l5,l6,l7,l8⟩:=lits_ok
 rw [qZ]
 refine⟨by show (3:Nat)≤12;omega,by show (7:Nat)≤4096;omega,?_⟩
 refine YL (n:=2) _ (by simp [l4,l5,l6]) (by simp only [List.map_cons,List.map_nil];decide) ?_
 intro p hp
 simp only [List.mem_cons,List.not_mem_nil,or_false] at hp
 rcases hp with rfl | rfl | rfl
 ·exact jH (n:=1) _ l7
 ·exact jH (n:=1) _ l8
 refine YL (n:=1) _ (by simp [l1,l2,l3]) (by simp only [List.map_cons,List.map_nil];decide) ?_
 intro p hp
 simp only [List.mem_cons,List.not_mem_nil,or_false] at hp
 rcases hp with rfl | rfl | rfl
 ·exact J3 (n:=0) _ (by omega) (by omega)
 ·exact J3 (n:=0) _ (by omega) (by omega)
 ·exact jH (n:=0) _ (hexS_ok _)
def yu (k:zP):ByteArray:=if zK k=true then xU (zY (kG 3 (qG k)).1) else ⟨#[]⟩
theorem Qe (k:zP) (h:k.root.length=32):ya 3 (qG k)≤200:=by
 have e2:ya 3 (qG k)=0 + (7 + (6 + (6 + 0))) + ((14 + 0 + 0) + ((6 + 0 + 0) + (ya 2 (jO k) + 0))):=rfl
 have e3:ya 2 (jO k)=0 + (4 + (6 + (6 + 0))) + ((0 + 0 + 0) + ((0 + 0 + 0) + (((xU k.root).size + 0 + 0) + 0))):=rfl
 have e4:=qW k.root
 rw [e2,e3,e4,h]
 omega
theorem QJ (k:zP) (hr:k.root.length=32) (h:zK k=true):(kG 3 (qG k)).2=0∧(kG 3 (qG k)).1.length≤262144:=by
 have hc:=Zt k h
 have hl:=Zs 3 (zz 3 (qG k)) (by rw [jy];exact (qZ.1 hc).2.2)
 rw [jB,jI] at hl
 have hb:=Qe k hr
 have hq:zt 3 (qG k)=7:=rfl
 have hle:(zq 3 (zz 3 (qG k))).length≤262144:=by omega
 rw [Zp hc hle]
 exact⟨rfl,hle⟩
def J4 {α:Type}:VS α:=⟨0,0,⟨#[]⟩,[],[]⟩
theorem rep_zero {n:Nat}(S:Nat→Prop) (w:World):Rep (n + 1) S w [.int .i64 0,.int .i64 0,.string ⟨#[]⟩,.slice none 0 0,.slice none 0 0] (J4:VS (V n)):=YC S w (J4:VS (V n)) rfl rfl (Qy (i:=0) (by decide) (by decide)) (Qy (i:=0) (by decide) (by decide))
theorem small_zero {n:Nat}:yk (n + 1) (J4:VS (V n)):=⟨by show 1 + 0≤20000;omega,by show 0 + 0 + 0≤400000;omega⟩
theorem enc_zero {n:Nat}:kG (n + 1) (J4:VS (V n))=([],40):=by
 have h:yC (n + 1) (J4:VS (V n))=40:=rfl
 have h2:=encV_bad (n:=n + 1) (v:=(J4:VS (V n))) (by rw [h];decide)
 rw [h] at h2
 exact h2
theorem YU (k:zP) (hb:kx k.bits) (hr:k.root.length=32) (w:World) (ht:ql w) (hks:xz w):Calls Tryz.prog 43 #[.agg (yi k)] w fun e w'=>e = .returned (.string (yu k))∧zb [] w w':=by
 obtain⟨W0,Gf⟩:∃ W0,Hid (W0=w.alloc (.cells (yi k) 47)):=⟨_,qI rfl⟩
 have Ga:Hid (zb [] w W0):=qI (by rw [Gf.o];exact (zb.refl _ w).alloc _)
 have HA:Hid (yt W0 w.heap.size k):=qI (by rw [Gf.o];exact zd rfl)
 have CV:=qI (keyValue_any k hb hr W0)
 have Gk:=qI hr
 have HT:=qI (ht.kept0 Ga.o)
 have Gp:=qI (hks.kept0 Ga.o)
 have Gc:Hid (yu k=if zK k=true then xU (zY (kG 3 (qG k)).1) else ⟨#[]⟩):=qI rfl
 have Gq:=qI (QJ k hr)
 have CZ:Hid (∀ w1:World,zb [] W0 w1→Calls Tryz.prog 78 #[ZG] w1 fun e w'=>(∃ a c,e = .returned (.tuple #[.slice a 0 c,.int .i64 40]))∧zb [] w1 w'):=qI (fun w1 hk=>by
  refine (ZQ (n:=1) (rep_zero (n:=0) (fun _=>True) w1) small_zero (by decide) ((ht.kept0 Ga.o).kept0 hk)).mono ?_
  rintro e w' ⟨⟨a,c,he,-⟩,hk'⟩
  rw [enc_zero] at he
  exact⟨⟨a,c,he⟩,hk'⟩)
 obtain⟨KV,Gi⟩:∃ KV,Hid (KV=qG k):=⟨_,qI rfl⟩
 obtain⟨X,HX⟩:∃ X,Hid (X=(kG 3 (qG k)).1):=⟨_,qI rfl⟩
 have CE:Hid (zK k=true→∀ (w1:World) (cs:List Value) (S:Nat→Prop),zb [] W0 w1→Rep 3 S w1 cs KV→Calls Tryz.prog 78 #[.agg cs.toArray] w1 fun e w'=>(∃ a c,e = .returned (.tuple #[.slice a X.length c,.int .i64 0])∧zp w' (.slice a X.length c) X)∧zb [] w1 w'):=qI (fun hm w1 cs S hk hrep=>by
  rw [Gi.o] at hrep
  have h1:=ZQ hrep (zau k hr) (by decide) ((ht.kept0 Ga.o).kept0 hk)
  rw [(QJ k hr hm).1,← HX.o] at h1
  exact h1)
 have Gj:Hid (zK k=true→X.length≤262144):=qI (fun hm=>by rw [HX.o];exact (QJ k hr hm).2)
 have Gl:Hid (yu k=if zK k=true then xU (zY X) else ⟨#[]⟩):=qI (by rw [HX.o];exact Gc.o)
 clear hb hr ht hks Gq HX Gc
 by_cases hm:zK k=true
 rotate_left
 ·have Gg:Hid (∀ w' e,vZ W0 w' e k=(e = .returned ZG)):=qI (fun w' e=>by unfold vZ;rw [if_neg hm])
  have Gh:Hid (yu k=⟨#[]⟩):=qI (by rw [Gl.o,if_neg hm])
  clear hm
  go_enter func43,ntmps43
  go_upto_region 1 with fail
  rw [← Gf.o]
  go_wp2_with first
   | (refine zT (by rfl) (.tmp 1) (by rfl) HA.o Gk.o (by rfl) ?_)
   | (go_at_call 81;refine CV.o.mono ?_;rintro e w1 ⟨he,hk1⟩;rw [Gg.o] at he;subst he;have Gb:=qI hk1;clear hk1)
   | (go_at_call 78;refine (CZ.o _ Gb.o).mono ?_;rintro e w2 ⟨⟨a2,c2,rfl⟩,hk2⟩;have Gd:=qI hk2;clear hk2)
  go_ret
  exact⟨by rw [Gh.o];rfl,(Ga.o.then Gb.o).then Gd.o⟩
 have Gg:Hid (∀ w' e,vZ W0 w' e k=New 3 W0 w' e (qG k)):=qI (fun w' e=>by unfold vZ;rw [if_pos hm])
 have Gh:Hid (yu k=xU (zY X)):=qI (by rw [Gl.o,if_pos hm])
 have CE:=qI (CE.o hm)
 have Gj:=qI (Gj.o hm)
 rw [← Gi.o] at Gg
 clear hm Gi
 go_enter func43,ntmps43
 go_upto_region 1 with fail
 rw [← Gf.o]
 go_upto_region 4 with first
  | (refine zT (by rfl) (.tmp 1) (by rfl) HA.o Gk.o (by rfl) ?_)
  | (go_at_call 81;refine CV.o.mono ?_;rintro e w1 ⟨he,hk1⟩;rw [Gg.o] at he;obtain⟨k3,m3,s3,p3,i3,c3,q3,j3,e3,rfl,ho3⟩:=Q7 he;have Gr:=qI ho3;have Gb:=qI hk1;clear hk1 he ho3)
  | (go_at_call 78;refine (CE.o _ _ _ Gb.o Gr.o.rep).mono ?_;rintro e w2 ⟨⟨a2,c2,rfl,hb2⟩,hk2⟩;have Gs:=qI hb2;have Gd:=qI hk2;clear hk2 hb2)
 have CO:Hid (Calls Tryz.prog 82 #[.slice (some ⟨w2.heap.size,0,none⟩) 1 1] (w2.alloc (.cells #[.slice a2 X.length c2] 53)) fun e w'=>e = .returned (.agg ((zY X).map bv).toArray)∧zb [] (w2.alloc (.cells #[.slice a2 X.length c2] 53)) w'):=qI (by
  have hka:=(zb.refl [] w2).alloc (.cells #[.slice a2 X.length c2] 53)
  have h1:=of_any (w2.alloc (.cells #[.slice a2 X.length c2] 53)) w2.heap.size 0 1 [.slice a2 X.length c2] [X] (ZY w2 [.slice a2 X.length c2] _) ((zI.nil _).cons (Gs.o.kept0 hka)) (by have:=Gj.o;simp;omega) (by simp) ((Gp.o.kept0 (Gb.o.then Gd.o)).kept0 hka)
  rw [List.flatten_cons,List.flatten_nil,List.append_nil] at h1
  exact h1)
 have Ge:Hid (zb [] w2 (w2.alloc (.cells #[.slice a2 X.length c2] 53))):=qI ((zb.refl _ _).alloc _)
 have Gm:Hid (∀ (w4:World) (g:Nat),yf w4 g (zY X)→Calls Tryz.prog 44 #[.slice (some ⟨g,0,none⟩) 32 32] w4 fun e w'=>e = .returned (.string (xU (zY X)))∧zb [] w4 w'):=qI (fun w4 g h=>by
  have hb:zp w4 (.slice (some ⟨g,0,none⟩) (zY X).length 32) (zY X):=⟨by simp,.inr (.inr ⟨g,0,32,rfl,by rw [yn];omega,by decide,⟨h.range,h.lt⟩⟩)⟩
  have h1:=QH hb (by rw [yn];decide) (by intro e;have:=yn X;rw [e] at this;cases this)
  rw [yn] at h1
  exact h1)
 generalize hsx:xU (zY X)=hx at Gm Gh
 clear hsx
 go_wp2_with first
  | (go_at_call 82;refine CO.o.mono ?_;rintro e w3 ⟨rfl,hk3⟩;have Gn:=qI hk3;clear hk3)
  | (refine zu (by rfl) (.tmp 5) (.tmp 16) (by rfl) (g:=w3.heap.size) (l0:=xy zw 0) (zd rfl) (z6 _ _) (yn _) (by rfl) (by rfl) ?_;intro w4 h4 hk4;have H4:=qI h4;have Gt:=qI hk4;clear h4 hk4;simp only [Act.put])
  | (go_at_call 44;refine (Gm.o _ _ H4.o).mono ?_;rintro e w5 ⟨rfl,hk5⟩;have Gu:=qI hk5;clear hk5)
 go_ret
 exact⟨by rw [Gh.o];rfl,(((((Ga.o.then Gb.o).then Gd.o).then Ge.o).then Gn.o).alloc _).trans Gt.o (by intro i hi;simp at hi;subst hi;refine .inr ?_;have:=((((Ga.o.then Gb.o).then Gd.o).then Ge.o).then Gn.o).size;omega) |>.then Gu.o⟩
theorem Zm (s:ByteArray) (hs:s.size≤140737488355328) (w:World):Calls Tryz.prog 96 #[.string s] w fun e w'=>(match yB s with | none=>e = .returned (.tuple #[.slice none 0 0,.int .i64 10]) | some l=>∃ a c,e = .returned (.tuple #[.slice a l.length c,.int .i64 0])∧zp w' (.slice a l.length c) l∧∀ g,yq (.slice a l.length c)=some g→w.heap.size≤g)∧zb [] w w':=by
 unfold yB
 by_cases h:s.size % 2=0∧s.data.toList.all xK=true
 ·rw [if_pos h]
  refine (unhex_yes s hs h.1 h.2 w).mono ?_
  rintro e w' ⟨⟨a,c,rfl,ho⟩,hk⟩
  exact⟨⟨a,c,rfl,by
   have h1:=Slc.of_row ho
   exact h1,fun g hg=>(ho.lt g (ye hg)).1⟩,hk⟩
 ·rw [if_neg h]
  refine unhex_no s hs ?_ w
  rw [not_and] at h
  rcases Nat.mod_two_eq_zero_or_one s.size with h1 | h1
  ·exact .inr (by simpa using h h1)
  ·exact .inl h1
def kR:List UInt8:=List.replicate 32 0
def yg:zP:=⟨0,0,kR⟩
theorem xD {ops:Array Oper}{rest:List Oper}{op:Oper}{a:Act}{w:World}{Q:Exit→Act→World→Prop}(hw:Region.wanted op (yielded ops a.tmps)=true) (x:Operand) (ho:op.op = .load 47 x) {g:Nat}{k:zP}(h0:yt w g k) (hl:k.root.length=32)
  (hx:a.eval x = .pointer (some ⟨g,0,none⟩)) (h:wpList Tryz.prog ops Q rest (a.put op.dst (.agg (yi k))) w):wpList Tryz.prog ops Q (op :: rest) a w:=
 BigFrame.wpList_want hw fun _ hK=>wp_load_mid 47 x ho g 0 hx (kT k) _ h0.range underlying47 rfl (by rw [xe hl];exact Y0) (hK _ _ h)
theorem Kc (k:zP):∀ v ∈ kT k,v.oneCell'=true:=by
 intro v hv
 rcases List.mem_cons.1 hv with rfl | hv
 ·rfl
 rcases List.mem_cons.1 hv with rfl | hv
 ·rfl
 exact xu _ v hv
theorem yt.there {w:World}{g:Nat}{k:zP}(h:yt w g k) (hl:k.root.length=32):w.there g 0 34:=fun j hj=>by
 rw [Nat.zero_add]
 have hj':j < (kT k).length:=by rw [xe hl];exact hj
 exact⟨by rw [za (v:=(kT k)[j]) h (by simp [yi,hj'])];rfl,zh h⟩
theorem yt.lt {w:World}{g:Nat}{k:zP}(h:yt w g k):g < w.heap.size:=lt_of_block h
theorem yt.put {w:World}{g:Nat}{k k':zP}(h:yt w g k) (hl:k.root.length=32) (hl':k'.root.length=32):yt (w.setCells g 0 (kT k')) g k':=by
 obtain⟨cur,h1,h2,h3⟩:=xx g (kT k') 0 w _ h
 have hz:(yi k).size=34:=by simp [yi,xe hl]
 have e:cur=yi k':=by
  apply Array.ext
  ·rw [h2,hz];simp [yi,xe hl']
  ·intro i hi1 hi2
   have hi3:i < 34:=by rw [h2,hz] at hi1;exact hi1
   have h4:=h3 i (by rw [hz];exact hi3)
   rw [if_pos (by rw [xe hl'];omega),Array.getElem?_eq_getElem hi1,Nat.sub_zero,List.getElem?_eq_getElem (by rw [xe hl'];exact hi3)] at h4
   rw [Option.some.inj h4]
   simp [yi]
 unfold yt
 rw [h1,e]
theorem yt.setRoot {w:World}{g:Nat}{b h:Int}{r r':List UInt8}(hk:yt w g ⟨b,h,r⟩) (hl:r.length=32) (hl':r'.length=32):yt (w.setCells g 2 (r'.map bv)) g ⟨b,h,r'⟩:=by
 obtain⟨cur,h1,h2,h3⟩:=xx g (r'.map bv) 2 w _ hk
 have hz:(yi ⟨b,h,r⟩).size=34:=by simp [yi,kT,hl]
 have e:cur=yi ⟨b,h,r'⟩:=by
  apply Array.ext'
  apply List.ext_getElem?
  intro i
  have e0:(yi ⟨b,h,r'⟩).toList = .int .i64 b :: .int .i64 h :: r'.map bv:=rfl
  rw [e0,Array.getElem?_toList]
  by_cases hi:i < 34
  ·rw [h3 i (by rw [hz];exact hi)]
   by_cases h2i:2≤i
   ·rw [if_pos (by simp [hl'];omega)]
    obtain⟨j,rfl⟩:∃ j,i=j + 2:=⟨i - 2,by omega⟩
    rfl
   ·rw [if_neg (by omega)]
    obtain rfl | rfl:i=0∨i=1:=by omega
    ·rfl
    ·rfl
  ·rw [Array.getElem?_eq_none (by rw [h2,hz];omega),List.getElem?_eq_none (by simp [hl'];omega)]
 unfold yt
 rw [h1,e]
theorem yS {ops:Array Oper}{rest:List Oper}{op:Oper}{a:Act}{w:World}{Q:Exit→Act→World→Prop}(hgd:op.guard=none) (x y:Operand) (ho:op.op = .store 47 x y) {g:Nat}{k k0:zP}(h0:yt w g k0) (hl0:k0.root.length=32) (hl:k.root.length=32)
  (hx:a.eval x = .pointer (some ⟨g,0,none⟩)) (hy:a.eval y = .agg (yi k)) (h:∀ w',yt w' g k→zb [g] w w'→wpList Tryz.prog ops Q rest (a.put op.dst undef) w'):wpList Tryz.prog ops Q (op :: rest) a w:=by
 have hsz:(yi k).size=34:=by simp [yi,xe hl]
 refine wpList_store_mid hgd 47 x y ho g 0 (yi k) hx hy (by rw [hsz];exact h0.there hl0) (by rw [hsz];exact Y0) (all_oneCell_toArray (Kc k)) (h _ ?_ (z7 _ _ _ _))
 exact h0.put hl0 hl
theorem yt.var {w:World}{g:Nat}{k:zP}(h:yt w g k) (hl:k.root.length=32):(loadVar 47 ⟨g,0,none⟩).run Tryz.prog w = .ok (.agg (yi k)) w:=run_loadVar_mid (P:=Tryz.prog) w g 0 47 (kT k) _ h.range underlying47 rfl (by rw [xe hl];exact Y0)
theorem YO {ops:Array Oper}{rest:List Oper}{op:Oper}{a:Act}{w:World}{Q:Exit→Act→World→Prop}(hgd:op.guard=none) (x y:Operand) (ho:op.op = .store 45 x y) {g:Nat}{b h:Int}{r l:List UInt8}(h0:yt w g ⟨b,h,r⟩) (hr:r.length=32) (hl:l.length=32)
  (hx:a.eval x = .pointer (some ⟨g,2,none⟩)) (hy:a.eval y = .agg (l.map bv).toArray) (hh:∀ w',yt w' g ⟨b,h,l⟩→zb [g] w w'→wpList Tryz.prog ops Q rest (a.put op.dst undef) w'):wpList Tryz.prog ops Q (op :: rest) a w:=by
 have hsz:(l.map bv).toArray.size=32:=by simp [hl]
 refine wpList_store_mid hgd 45 x y ho g 2 (l.map bv).toArray hx hy (fun j hj=>?_) (by rw [hsz];exact xX) (one32 _) (hh _ ?_ (z7 _ _ _ _))
 ·rw [hsz] at hj
  have h1:=h0.there hr (2 + j) (by omega)
  rw [Nat.zero_add] at h1
  exact h1
 ·exact h0.setRoot hr hl
end Go.Proofs.YtibnfbglanpoiaaGreatDoor

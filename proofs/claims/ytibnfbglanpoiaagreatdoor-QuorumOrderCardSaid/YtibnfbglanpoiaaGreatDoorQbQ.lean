/- Parts of one proof, merged: XID XIH. -/
import Derived.Test.YtibnfbglanpoiaaGreatDoorQbP
import Derived.Lib.ValidLaws
import Derived.Laws.Cover3
set_option linter.all false
set_option maxHeartbeats 12800000
set_option maxRecDepth 10000
set_option linter.unusedVariables false
set_option linter.unusedSimpArgs false
set_option linter.unnecessarySimpa false
namespace Go.Proofs.YtibnfbglanpoiaaGreatDoor
open Go.Proofs.Tryz
open Go.RowKit
theorem YN {s:ByteArray}(h:∀ b,b ∈ s.data.toList→b.toNat < 128):yk s=true:=by
 unfold yk
 rw [Lib.validD_ascii s.data.toList.length _ (fun b hb=>h b (List.mem_of_mem_take hb)),List.drop_length]
 rfl
theorem hexd_low (n:Nat):kz (xX n)=true∨16≤n:=by
 rcases Nat.lt_or_ge n 16 with h | h
 ·refine .inl ?_
  have:∀ m:Fin 16,kz (xX m.val)=true:=by decide
  exact this ⟨n,h⟩
 ·exact .inr h
theorem low_128 {b:UInt8}(h:kz b=true):b.toNat < 128:=by
 have:∀ c:Fin 256,kz (UInt8.ofNat c.val)=true→(UInt8.ofNat c.val).toNat < 128:=by decide +kernel
 have h2:=this ⟨b.toNat,UInt8.toNat_lt b⟩
 simp only [UInt8.ofNat_toNat] at h2
 exact h2 h
theorem Q9 (l:List UInt8):∀ b,b ∈ qY l→kz b=true:=by
 intro b hb
 obtain⟨c,-,hc⟩:=List.mem_flatMap.1 hb
 have hc':=UInt8.toNat_lt c
 simp only [List.mem_cons,List.not_mem_nil,or_false] at hc
 rcases hc with rfl | rfl
 ·exact (hexd_low _).resolve_right (by omega)
 ·exact (hexd_low _).resolve_right (by omega)
theorem KY (l:List UInt8):(xL l).data.toList=qY l:=by rw [xL];exact qm _
theorem hexS_ok (l:List UInt8):yk (xL l)=true:=YN fun b hb=>low_128 (Q9 l b (by rwa [KY] at hb))
theorem KG:∀ (l:List UInt8),xA (qY l)=l
 | []=>rfl
 | c :: l=>by
  have h:∀ n:Fin 256,UInt8.ofNat (hv (xX ((UInt8.ofNat n.val).toNat / 16)) * 16 + hv (xX ((UInt8.ofNat n.val).toNat % 16)))=UInt8.ofNat n.val:=by decide +kernel
  have h1:=h ⟨c.toNat,UInt8.toNat_lt c⟩
  simp only [UInt8.ofNat_toNat] at h1
  have e:qY (c :: l)=xX (c.toNat / 16) :: xX (c.toNat % 16) :: qY l:=rfl
  rw [e,xA,KG l,h1]
theorem vf (l:List UInt8):xC (xL l)=some l:=by
 unfold xC
 have e:(xL l).data.toList=qY l:=by simp [xL,yc]
 rw [if_pos ⟨by rw [qM];omega,by rw [e];exact List.all_eq_true.2 (Q9 l)⟩,e,KG]
theorem lits_ok:yk ⟨#[98,105,116,115]⟩=true∧yk ⟨#[104,101,105,103,104,116]⟩=true∧yk ⟨#[112,117,98,108,105,99]⟩=true∧yk ⟨#[107,101,121,116,121,112,101]⟩=true∧yk ⟨#[115,99,104,101,109,101]⟩=true∧yk ⟨#[107,101,121,118,97,108]⟩=true∧yk ⟨#[108,97,109,112,111,114,116,45,109,101,114,107,108,101]⟩=true∧yk ⟨#[115,104,97,50,53,54]⟩=true:=by
 refine⟨?_,?_,?_,?_,?_,?_,?_,?_⟩
 all_goals exact YN (by decide)
theorem Z3 {n:Nat}(m:List (ByteArray × V n)) (h1:∀ p,p ∈ m→yk p.1=true) (h2:(m.map (fun p=>p.1)).Nodup) (h3:∀ p,p ∈ m→zx n p.2=true):zx (n + 1) (bl m:VS (V n))=true:=by
 have e:zx (n + 1) (bl m:VS (V n))=(zH (bl m) && (bl m).kids.all (zx n)):=rfl
 rw [e,Bool.and_eq_true]
 refine⟨?_,?_⟩
 ·have e2:zH (bl m:VS (V n))=(xK m && true && true && true):=rfl
  rw [e2,Bool.and_true,Bool.and_true,Bool.and_true,xK,decide_eq_true h2,Bool.and_true,List.all_eq_true]
  exact h1
 ·rw [List.all_eq_true]
  intro x hx
  obtain⟨p,hp,rfl⟩:=List.mem_map.1 (by simpa [VS.kids,bl] using hx:x ∈ m.map (fun p=>p.2))
  exact h3 p hp
theorem jq {n:Nat}(s:ByteArray) (h:yk s=true):zx (n + 1) (qq s:VS (V n))=true:=by
 have e:zx (n + 1) (qq s:VS (V n))=(zH (qq s:VS (V n)) && (qq s:VS (V n)).kids.all (zx n)):=rfl
 rw [e,Bool.and_eq_true]
 have e2:zH (qq s:VS (V n))=(yk s && true && true && true):=rfl
 exact⟨by rw [e2,h];rfl,rfl⟩
theorem JI {n:Nat}(z:Int) (h0:-9007199254740991≤z) (h1:z≤9007199254740991):zx (n + 1) (Zu z:VS (V n))=true:=by
 have e:zx (n + 1) (Zu z:VS (V n))=(zH (Zu z:VS (V n)) && (Zu z:VS (V n)).kids.all (zx n)):=rfl
 rw [e,Bool.and_eq_true]
 have e2:zH (Zu z:VS (V n))=(decide (-9007199254740991≤z∧z≤9007199254740991) && true && true && true):=rfl
 exact⟨by rw [e2,decide_eq_true ⟨h0,h1⟩];rfl,rfl⟩
theorem bG (k:zQ) (h:zI k=true):yS 3 (qr k)=0:=by
 unfold zI yw at h
 simp only [Bool.and_eq_true,decide_eq_true_eq] at h
 obtain⟨l1,l2,l3,l4,l5,l6,l7,l8⟩:=lits_ok
 rw [qL]
 refine⟨by show (3:Nat)≤12;omega,by show (7:Nat)≤4096;omega,?_⟩
 refine Z3 (n:=2) _ (by simp [l4,l5,l6]) (by simp only [List.map_cons,List.map_nil];decide) ?_
 intro p hp
 simp only [List.mem_cons,List.not_mem_nil,or_false] at hp
 rcases hp with rfl | rfl | rfl
 ·exact jq (n:=1) _ l7
 ·exact jq (n:=1) _ l8
 refine Z3 (n:=1) _ (by simp [l1,l2,l3]) (by simp only [List.map_cons,List.map_nil];decide) ?_
 intro p hp
 simp only [List.mem_cons,List.not_mem_nil,or_false] at hp
 rcases hp with rfl | rfl | rfl
 ·exact JI (n:=0) _ (by omega) (by omega)
 ·exact JI (n:=0) _ (by omega) (by omega)
 ·exact jq (n:=0) _ (hexS_ok _)
def yq (k:zQ):ByteArray:=if zI k=true then xL (zW (kh 3 (qr k)).1) else ⟨#[]⟩
theorem YM (k:zQ) (h:k.root.length=32):yd 3 (qr k)≤200:=by
 have e2:yd 3 (qr k)=0 + (7 + (6 + (6 + 0))) + ((14 + 0 + 0) + ((6 + 0 + 0) + (yd 2 (jk k) + 0))):=rfl
 have e3:yd 2 (jk k)=0 + (4 + (6 + (6 + 0))) + ((0 + 0 + 0) + ((0 + 0 + 0) + (((xL k.root).size + 0 + 0) + 0))):=rfl
 have e4:=qM k.root
 rw [e2,e3,e4,h]
 omega
theorem Y6 (k:zQ) (hr:k.root.length=32) (h:zI k=true):(kh 3 (qr k)).2=0∧(kh 3 (qr k)).1.length≤262144:=by
 have hc:=bG k h
 have hl:=bL 3 (zv 3 (qr k)) (by rw [jm];exact (qL.1 hc).2.2)
 rw [jl,jf] at hl
 have hb:=YM k hr
 have hq:zF 3 (qr k)=7:=rfl
 have hle:(zp 3 (zv 3 (qr k))).length≤262144:=by omega
 rw [bS hc hle]
 exact⟨rfl,hle⟩
def K8 {α:Type}:VS α:=⟨0,0,⟨#[]⟩,[],[]⟩
theorem rep_zero {n:Nat}(S:Nat→Prop) (w:World):Rep (n + 1) S w [.int .i64 0,.int .i64 0,.string ⟨#[]⟩,.slice none 0 0,.slice none 0 0] (K8:VS (V n)):=ZA S w (K8:VS (V n)) rfl rfl (YW (i:=0) (by decide) (by decide)) (YW (i:=0) (by decide) (by decide))
theorem small_zero {n:Nat}:yx (n + 1) (K8:VS (V n)):=⟨by show 1 + 0≤20000;omega,by show 0 + 0 + 0≤400000;omega⟩
theorem enc_zero {n:Nat}:kh (n + 1) (K8:VS (V n))=([],40):=by
 have h:yS (n + 1) (K8:VS (V n))=40:=rfl
 have h2:=encV_bad (n:=n + 1) (v:=(K8:VS (V n))) (by rw [h];decide)
 rw [h] at h2
 exact h2
theorem Z0 (k:zQ) (hb:ka k.bits) (hr:k.root.length=32) (w:World) (ht:xW w) (hks:xb w):Calls Tryz.prog 43 #[.agg (yb k)] w fun e w'=>e = .returned (.string (yq k))∧zb [] w w':=by
 obtain⟨W0,Gf⟩:∃ W0,Hid (W0=w.alloc (.cells (yb k) 47)):=⟨_,qI rfl⟩
 have Ga:Hid (zb [] w W0):=qI (by rw [Gf.o];exact (zb.refl _ w).alloc _)
 have HA:Hid (yo W0 w.heap.size k):=qI (by rw [Gf.o];exact zd rfl)
 have CV:=qI (J9 k hb hr W0)
 have Gk:=qI hr
 have HT:=qI (ht.kept0 Ga.o)
 have Gp:=qI (hks.kept0 Ga.o)
 have Gc:Hid (yq k=if zI k=true then xL (zW (kh 3 (qr k)).1) else ⟨#[]⟩):=qI rfl
 have Gq:=qI (Y6 k hr)
 have CZ:Hid (∀ w1:World,zb [] W0 w1→Calls Tryz.prog 78 #[b8] w1 fun e w'=>(∃ a c,e = .returned (.tuple #[.slice a 0 c,.int .i64 40]))∧zb [] w1 w'):=qI (fun w1 hk=>by
  refine (Zm (n:=1) (rep_zero (n:=0) (fun _=>True) w1) small_zero (by decide) ((ht.kept0 Ga.o).kept0 hk)).mono ?_
  rintro e w' ⟨⟨a,c,he,-⟩,hk'⟩
  rw [enc_zero] at he
  exact⟨⟨a,c,he⟩,hk'⟩)
 obtain⟨KV,Gi⟩:∃ KV,Hid (KV=qr k):=⟨_,qI rfl⟩
 obtain⟨X,HX⟩:∃ X,Hid (X=(kh 3 (qr k)).1):=⟨_,qI rfl⟩
 have CE:Hid (zI k=true→∀ (w1:World) (cs:List Value) (S:Nat→Prop),zb [] W0 w1→Rep 3 S w1 cs KV→Calls Tryz.prog 78 #[.agg cs.toArray] w1 fun e w'=>(∃ a c,e = .returned (.tuple #[.slice a X.length c,.int .i64 0])∧zo w' (.slice a X.length c) X)∧zb [] w1 w'):=qI (fun hm w1 cs S hk hrep=>by
  rw [Gi.o] at hrep
  have h1:=Zm hrep (JD k hr) (by decide) ((ht.kept0 Ga.o).kept0 hk)
  rw [(Y6 k hr hm).1,← HX.o] at h1
  exact h1)
 have Gj:Hid (zI k=true→X.length≤262144):=qI (fun hm=>by rw [HX.o];exact (Y6 k hr hm).2)
 have Gl:Hid (yq k=if zI k=true then xL (zW X) else ⟨#[]⟩):=qI (by rw [HX.o];exact Gc.o)
 clear hb hr ht hks Gq HX Gc
 by_cases hm:zI k=true
 rotate_left
 ·have Gg:Hid (∀ w' e,vu W0 w' e k=(e = .returned b8)):=qI (fun w' e=>by unfold vu;rw [if_neg hm])
  have Gh:Hid (yq k=⟨#[]⟩):=qI (by rw [Gl.o,if_neg hm])
  clear hm
  go_enter func43,ntmps43
  go_upto_region 1 with fail
  rw [← Gf.o]
  go_wp2_with first
   | (refine zS (by rfl) (.tmp 1) (by rfl) HA.o Gk.o (by rfl) ?_)
   | (go_at_call 81;refine CV.o.mono ?_;rintro e w1 ⟨he,hk1⟩;rw [Gg.o] at he;subst he;have Gb:=qI hk1;clear hk1)
   | (go_at_call 78;refine (CZ.o _ Gb.o).mono ?_;rintro e w2 ⟨⟨a2,c2,rfl⟩,hk2⟩;have Gd:=qI hk2;clear hk2)
  go_ret
  exact⟨by rw [Gh.o];rfl,(Ga.o.then Gb.o).then Gd.o⟩
 have Gg:Hid (∀ w' e,vu W0 w' e k=New 3 W0 w' e (qr k)):=qI (fun w' e=>by unfold vu;rw [if_pos hm])
 have Gh:Hid (yq k=xL (zW X)):=qI (by rw [Gl.o,if_pos hm])
 have CE:=qI (CE.o hm)
 have Gj:=qI (Gj.o hm)
 rw [← Gi.o] at Gg
 clear hm Gi
 go_enter func43,ntmps43
 go_upto_region 1 with fail
 rw [← Gf.o]
 go_upto_region 4 with first
  | (refine zS (by rfl) (.tmp 1) (by rfl) HA.o Gk.o (by rfl) ?_)
  | (go_at_call 81;refine CV.o.mono ?_;rintro e w1 ⟨he,hk1⟩;rw [Gg.o] at he;obtain⟨k3,m3,s3,p3,i3,c3,q3,j3,e3,rfl,ho3⟩:=QS he;have Gr:=qI ho3;have Gb:=qI hk1;clear hk1 he ho3)
  | (go_at_call 78;refine (CE.o _ _ _ Gb.o Gr.o.rep).mono ?_;rintro e w2 ⟨⟨a2,c2,rfl,hb2⟩,hk2⟩;have Gs:=qI hb2;have Gd:=qI hk2;clear hk2 hb2)
 have CO:Hid (Calls Tryz.prog 82 #[.slice (some ⟨w2.heap.size,0,none⟩) 1 1] (w2.alloc (.cells #[.slice a2 X.length c2] 53)) fun e w'=>e = .returned (.agg ((zW X).map bv).toArray)∧zb [] (w2.alloc (.cells #[.slice a2 X.length c2] 53)) w'):=qI (by
  have hka:=(zb.refl [] w2).alloc (.cells #[.slice a2 X.length c2] 53)
  have h1:=of_any (w2.alloc (.cells #[.slice a2 X.length c2] 53)) w2.heap.size 0 1 [.slice a2 X.length c2] [X] (Zy w2 [.slice a2 X.length c2] _) ((zG.nil _).cons (Gs.o.kept0 hka)) (by have:=Gj.o;simp;omega) (by simp) ((Gp.o.kept0 (Gb.o.then Gd.o)).kept0 hka)
  rw [List.flatten_cons,List.flatten_nil,List.append_nil] at h1
  exact h1)
 have Ge:Hid (zb [] w2 (w2.alloc (.cells #[.slice a2 X.length c2] 53))):=qI ((zb.refl _ _).alloc _)
 have Gm:Hid (∀ (w4:World) (g:Nat),ya w4 g (zW X)→Calls Tryz.prog 44 #[.slice (some ⟨g,0,none⟩) 32 32] w4 fun e w'=>e = .returned (.string (xL (zW X)))∧zb [] w4 w'):=qI (fun w4 g h=>by
  have hb:zo w4 (.slice (some ⟨g,0,none⟩) (zW X).length 32) (zW X):=⟨by simp,.inr (.inr ⟨g,0,32,rfl,by rw [yh];omega,by decide,⟨h.range,h.lt⟩⟩)⟩
  have h1:=Y9 hb (by rw [yh];decide) (by intro e;have:=yh X;rw [e] at this;cases this)
  rw [yh] at h1
  exact h1)
 generalize hsx:xL (zW X)=hx at Gm Gh
 clear hsx
 go_wp2_with first
  | (go_at_call 82;refine CO.o.mono ?_;rintro e w3 ⟨rfl,hk3⟩;have Gn:=qI hk3;clear hk3)
  | (refine zt (by rfl) (.tmp 5) (.tmp 16) (by rfl) (g:=w3.heap.size) (l0:=yZ zr 0) (zd rfl) (zX _ _) (yh _) (by rfl) (by rfl) ?_;intro w4 h4 hk4;have H4:=qI h4;have Gt:=qI hk4;clear h4 hk4;simp only [Act.put])
  | (go_at_call 44;refine (Gm.o _ _ H4.o).mono ?_;rintro e w5 ⟨rfl,hk5⟩;have Gu:=qI hk5;clear hk5)
 go_ret
 exact⟨by rw [Gh.o];rfl,(((((Ga.o.then Gb.o).then Gd.o).then Ge.o).then Gn.o).alloc _).trans Gt.o (by intro i hi;simp at hi;subst hi;refine .inr ?_;have:=((((Ga.o.then Gb.o).then Gd.o).then Ge.o).then Gn.o).size;omega) |>.then Gu.o⟩
theorem bM (s:ByteArray) (hs:s.size≤140737488355328) (w:World):Calls Tryz.prog 96 #[.string s] w fun e w'=>(match xC s with | none=>e = .returned (.tuple #[.slice none 0 0,.int .i64 10]) | some l=>∃ a c,e = .returned (.tuple #[.slice a l.length c,.int .i64 0])∧zo w' (.slice a l.length c) l∧∀ g,yj (.slice a l.length c)=some g→w.heap.size≤g)∧zb [] w w':=by
 unfold xC
 by_cases h:s.size % 2=0∧s.data.toList.all kz=true
 ·rw [if_pos h]
  refine (unhex_yes s hs h.1 h.2 w).mono ?_
  rintro e w' ⟨⟨a,c,rfl,ho⟩,hk⟩
  exact⟨⟨a,c,rfl,by
   have h1:=Slc.of_row ho
   exact h1,fun g hg=>(ho.lt g (yf hg)).1⟩,hk⟩
 ·rw [if_neg h]
  refine unhex_no s hs ?_ w
  rw [not_and] at h
  rcases Nat.mod_two_eq_zero_or_one s.size with h1 | h1
  ·exact .inr (by simpa using h h1)
  ·exact .inl h1
def kx:List UInt8:=List.replicate 32 0
def z6:zQ:=⟨0,0,kx⟩
theorem xr {ops:Array Oper}{rest:List Oper}{op:Oper}{a:Act}{w:World}{Q:Exit→Act→World→Prop}(hw:Region.wanted op (yielded ops a.tmps)=true) (x:Operand) (ho:op.op = .load 47 x) {g:Nat}{k:zQ}(h0:yo w g k) (hl:k.root.length=32)
  (hx:a.eval x = .pointer (some ⟨g,0,none⟩)) (h:wpList Tryz.prog ops Q rest (a.put op.dst (.agg (yb k))) w):wpList Tryz.prog ops Q (op :: rest) a w:=
 BigFrame.wpList_want hw fun _ hK=>wp_load_mid 47 x ho g 0 hx (ky k) _ h0.range underlying47 rfl (by rw [yT hl];exact ZR) (hK _ _ h)
theorem QR (k:zQ):∀ v ∈ ky k,v.oneCell'=true:=by
 intro v hv
 rcases List.mem_cons.1 hv with rfl | hv
 ·rfl
 rcases List.mem_cons.1 hv with rfl | hv
 ·rfl
 exact yW _ v hv
theorem yo.there {w:World}{g:Nat}{k:zQ}(h:yo w g k) (hl:k.root.length=32):w.there g 0 34:=fun j hj=>by
 rw [Nat.zero_add]
 have hj':j < (ky k).length:=by rw [yT hl];exact hj
 exact⟨by rw [za (v:=(ky k)[j]) h (by simp [yb,hj'])];rfl,zh h⟩
theorem yo.lt {w:World}{g:Nat}{k:zQ}(h:yo w g k):g < w.heap.size:=lt_of_block h
theorem yo.put {w:World}{g:Nat}{k k':zQ}(h:yo w g k) (hl:k.root.length=32) (hl':k'.root.length=32):yo (w.setCells g 0 (ky k')) g k':=by
 obtain⟨cur,h1,h2,h3⟩:=yY g (ky k') 0 w _ h
 have hz:(yb k).size=34:=by simp [yb,yT hl]
 have e:cur=yb k':=by
  apply Array.ext
  ·rw [h2,hz];simp [yb,yT hl']
  ·intro i hi1 hi2
   have hi3:i < 34:=by rw [h2,hz] at hi1;exact hi1
   have h4:=h3 i (by rw [hz];exact hi3)
   rw [if_pos (by rw [yT hl'];omega),Array.getElem?_eq_getElem hi1,Nat.sub_zero,List.getElem?_eq_getElem (by rw [yT hl'];exact hi3)] at h4
   rw [Option.some.inj h4]
   simp [yb]
 unfold yo
 rw [h1,e]
theorem yo.setRoot {w:World}{g:Nat}{b h:Int}{r r':List UInt8}(hk:yo w g ⟨b,h,r⟩) (hl:r.length=32) (hl':r'.length=32):yo (w.setCells g 2 (r'.map bv)) g ⟨b,h,r'⟩:=by
 obtain⟨cur,h1,h2,h3⟩:=yY g (r'.map bv) 2 w _ hk
 have hz:(yb ⟨b,h,r⟩).size=34:=by simp [yb,ky,hl]
 have e:cur=yb ⟨b,h,r'⟩:=by
  apply Array.ext'
  apply List.ext_getElem?
  intro i
  have e0:(yb ⟨b,h,r'⟩).toList = .int .i64 b :: .int .i64 h :: r'.map bv:=rfl
  rw [e0,Array.getElem?_toList]
  by_cases hi:i < 34
  ·rw [h3 i (by rw [hz];exact hi)]
   by_cases h2i:2≤i
   ·rw [if_pos (by simp [hl'];omega)]
    obtain⟨j,rfl⟩:∃ j,i=j + 2:=⟨i - 2,by omega⟩
    rfl
   ·rw [if_neg (by omega)]
    obtain rfl | rfl:i=0∨i=1:=by omega
    ·rfl
    ·rfl
  ·rw [Array.getElem?_eq_none (by rw [h2,hz];omega),List.getElem?_eq_none (by simp [hl'];omega)]
 unfold yo
 rw [h1,e]
theorem yO {ops:Array Oper}{rest:List Oper}{op:Oper}{a:Act}{w:World}{Q:Exit→Act→World→Prop}(hgd:op.guard=none) (x y:Operand) (ho:op.op = .store 47 x y) {g:Nat}{k k0:zQ}(h0:yo w g k0) (hl0:k0.root.length=32) (hl:k.root.length=32)
  (hx:a.eval x = .pointer (some ⟨g,0,none⟩)) (hy:a.eval y = .agg (yb k)) (h:∀ w',yo w' g k→zb [g] w w'→wpList Tryz.prog ops Q rest (a.put op.dst undef) w'):wpList Tryz.prog ops Q (op :: rest) a w:=by
 have hsz:(yb k).size=34:=by simp [yb,yT hl]
 refine wpList_store_mid hgd 47 x y ho g 0 (yb k) hx hy (by rw [hsz];exact h0.there hl0) (by rw [hsz];exact ZR) (all_oneCell_toArray (QR k)) (h _ ?_ (zZ _ _ _ _))
 exact h0.put hl0 hl
theorem yo.var {w:World}{g:Nat}{k:zQ}(h:yo w g k) (hl:k.root.length=32):(loadVar 47 ⟨g,0,none⟩).run Tryz.prog w = .ok (.agg (yb k)) w:=run_loadVar_mid (P:=Tryz.prog) w g 0 47 (ky k) _ h.range underlying47 rfl (by rw [yT hl];exact ZR)
theorem ZY {ops:Array Oper}{rest:List Oper}{op:Oper}{a:Act}{w:World}{Q:Exit→Act→World→Prop}(hgd:op.guard=none) (x y:Operand) (ho:op.op = .store 45 x y) {g:Nat}{b h:Int}{r l:List UInt8}(h0:yo w g ⟨b,h,r⟩) (hr:r.length=32) (hl:l.length=32)
  (hx:a.eval x = .pointer (some ⟨g,2,none⟩)) (hy:a.eval y = .agg (l.map bv).toArray) (hh:∀ w',yo w' g ⟨b,h,l⟩→zb [g] w w'→wpList Tryz.prog ops Q rest (a.put op.dst undef) w'):wpList Tryz.prog ops Q (op :: rest) a w:=by
 have hsz:(l.map bv).toArray.size=32:=by simp [hl]
 refine wpList_store_mid hgd 45 x y ho g 2 (l.map bv).toArray hx hy (fun j hj=>?_) (by rw [hsz];exact xS) (one32 _) (hh _ ?_ (zZ _ _ _ _))
 ·rw [hsz] at hj
  have h1:=h0.there hr (2 + j) (by omega)
  rw [Nat.zero_add] at h1
  exact h1
 ·exact h0.setRoot hr hl
end Go.Proofs.YtibnfbglanpoiaaGreatDoor

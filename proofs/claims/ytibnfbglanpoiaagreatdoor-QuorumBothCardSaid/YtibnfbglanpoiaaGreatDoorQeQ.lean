/- Parts of one proof, merged: XID XIH XII XIJ. -/
import Derived.Test.YtibnfbglanpoiaaGreatDoorQeO
import Derived.Test.YtibnfbglanpoiaaGreatDoorQeP
import Derived.Laws.Cover3
set_option linter.all false
set_option maxHeartbeats 12800000
set_option maxRecDepth 10000
namespace Go.Proofs.YtibnfbglanpoiaaGreatDoor
open Go.Proofs.Tryz
open Go.RowKit
theorem Q4 {s:ByteArray}(h:∀ b,b∈s.data.toList→b.toNat<128):zQ s=true:=by
 unfold zQ
 rw [Lib.validD_ascii s.data.toList.length _ (fun b hb=>h b (List.mem_of_mem_take hb)),List.drop_length]
 rfl
theorem hexd_low (n:Nat):qf (qy n)=true∨16≤n:=by
 rcases Nat.lt_or_ge n 16 with h | h
 ·refine .inl ?_
  have:∀ m:Fin 16,qf (qy m.val)=true:=Wo
  exact this ⟨n,h⟩
 ·exact .inr h
theorem low_128 {b:UInt8}(h:qf b=true):b.toNat<128:=by
 have:∀ c:Fin 256,qf (UInt8.ofNat c.val)=true→(UInt8.ofNat c.val).toNat<128:=by decide +kernel
 have h2:=this ⟨b.toNat,UInt8.toNat_lt b⟩
 simp only [UInt8.ofNat_toNat] at h2
 exact h2 h
theorem JW (l:List UInt8):∀ b,b∈kQ l→qf b=true:=by
 intro b hb
 obtain⟨c,-,hc⟩:=List.mem_flatMap.1 hb
 have hc':=UInt8.toNat_lt c
 simp only [List.mem_cons,List.not_mem_nil,or_false] at hc
 rcases hc with rfl | rfl
 ·exact (hexd_low _).resolve_right Ws
 ·exact (hexd_low _).resolve_right Ws
theorem hexS_list (l:List UInt8):(qp l).data.toList=kQ l:=by rw [qp];exact xZ _
theorem hexS_ok (l:List UInt8):zQ (qp l)=true:=Q4 fun b hb=>low_128 (JW l b (by rwa [hexS_list] at hb))
theorem pairs_hex:∀ (l:List UInt8),xw (kQ l)=l
 | []=>rfl
 | c::l=>by
  have h:∀ n:Fin 256,UInt8.ofNat (hv (qy ((UInt8.ofNat n.val).toNat/16))*16+hv (qy ((UInt8.ofNat n.val).toNat%16)))=UInt8.ofNat n.val:=by decide +kernel
  have h1:=h ⟨c.toNat,UInt8.toNat_lt c⟩
  simp only [UInt8.ofNat_toNat] at h1
  have e:kQ (c::l)=qy (c.toNat/16)::qy (c.toNat%16)::kQ l:=rfl
  rw [e,xw,pairs_hex l,h1]
theorem bI (l:List UInt8):yJ (qp l)=some l:=by
 unfold yJ
 have e:(qp l).data.toList=kQ l:=by simp [qp,yc]
 rw [if_pos ⟨by rw [kI];omega,by rw [e];exact List.all_eq_true.2 (JW l)⟩,e,pairs_hex]
theorem lits_ok:zQ ⟨#[98,105,116,115]⟩=true∧zQ ⟨#[104,101,105,103,104,116]⟩=true∧zQ ⟨#[112,117,98,108,105,99]⟩=true∧zQ ⟨#[107,101,121,116,121,112,101]⟩=true∧zQ ⟨#[115,99,104,101,109,101]⟩=true∧zQ ⟨#[107,101,121,118,97,108]⟩=true∧zQ ⟨#[108,97,109,112,111,114,116,45,109,101,114,107,108,101]⟩=true∧zQ ⟨#[115,104,97,50,53,54]⟩=true:=by
 refine⟨?_,?_,?_,?_,?_,?_,?_,?_⟩
 all_goals exact Q4 Wo
theorem QJ {n:Nat}(m:List (ByteArray×V n)) (h1:∀ p,p∈m→zQ p.1=true) (h2:(m.map (fun p=>p.1)).Nodup) (h3:∀ p,p∈m→zr n p.2=true):zr (n+1) (Zx m:VS (V n))=true:=by
 have e:zr (n+1) (Zx m:VS (V n))=(zx (Zx m)&&(Zx m).kids.all (zr n)):=rfl
 rw [e,Bool.and_eq_true]
 refine⟨?_,?_⟩
 ·have e2:zx (Zx m:VS (V n))=(xA m&&true&&true&&true):=rfl
  rw [e2,Bool.and_true,Bool.and_true,Bool.and_true,xA,decide_eq_true h2,Bool.and_true,List.all_eq_true]
  exact h1
 ·rw [List.all_eq_true]
  intro x hx
  obtain⟨p,hp,rfl⟩:=List.mem_map.1 (by simpa [VS.kids,Zx] using hx:x∈m.map (fun p=>p.2))
  exact h3 p hp
theorem vz {n:Nat}(s:ByteArray) (h:zQ s=true):zr (n+1) (qY s:VS (V n))=true:=by
 have e:zr (n+1) (qY s:VS (V n))=(zx (qY s:VS (V n))&&(qY s:VS (V n)).kids.all (zr n)):=rfl
 rw [e,Bool.and_eq_true]
 have e2:zx (qY s:VS (V n))=(zQ s&&true&&true&&true):=rfl
 exact⟨by rw [e2,h];rfl,rfl⟩
theorem right_int {n:Nat}(z:Int) (h0:-9007199254740991≤z) (h1:z≤9007199254740991):zr (n+1) (YU z:VS (V n))=true:=by
 have e:zr (n+1) (YU z:VS (V n))=(zx (YU z:VS (V n))&&(YU z:VS (V n)).kids.all (zr n)):=rfl
 rw [e,Bool.and_eq_true]
 have e2:zx (YU z:VS (V n))=(decide (-9007199254740991≤z∧z≤9007199254740991)&&true&&true&&true):=rfl
 exact⟨by rw [e2,decide_eq_true ⟨h0,h1⟩];rfl,rfl⟩
theorem Z0 (k:zY) (h:zI k=true):yQ 3 (ka k)=0:=by
 unfold zI yv at h
 simp only [Bool.and_eq_true,decide_eq_true_eq] at h
 obtain⟨l1,l2,l3,l4,l5,l6,l7,l8⟩:=lits_ok
 rw [kH]
 refine⟨by show (3:Nat)≤12;omega,by show (7:Nat)≤4096;omega,?_⟩
 refine QJ (n:=2) _ (by simp [l4,l5,l6]) (by simp only [List.map_cons,List.map_nil];decide) ?_
 intro p hp
 simp only [List.mem_cons,List.not_mem_nil,or_false] at hp
 rcases hp with rfl | rfl | rfl
 ·exact vz (n:=1) _ l7
 ·exact vz (n:=1) _ l8
 refine QJ (n:=1) _ (by simp [l1,l2,l3]) (by simp only [List.map_cons,List.map_nil];decide) ?_
 intro p hp
 simp only [List.mem_cons,List.not_mem_nil,or_false] at hp
 rcases hp with rfl | rfl | rfl
 ·exact right_int (n:=0) _ Ws Ws
 ·exact right_int (n:=0) _ Ws Ws
 ·exact vz (n:=0) _ (hexS_ok _)
def yh (k:zY):ByteArray:=if zI k=true then qp (zV (qB 3 (ka k)).1) else ⟨#[]⟩
theorem Q6 (k:zY) (h:k.root.length=32):yl 3 (ka k)≤200:=by
 have e2:yl 3 (ka k)=0+(7+(6+(6+0)))+((14+0+0)+((6+0+0)+(yl 2 (j7 k)+0))):=rfl
 have e3:yl 2 (j7 k)=0+(4+(6+(6+0)))+((0+0+0)+((0+0+0)+(((qp k.root).size+0+0)+0))):=rfl
 have e4:=kI k.root
 rw [e2,e3,e4,h]
 omega
theorem Km (k:zY) (hr:k.root.length=32) (h:zI k=true):(qB 3 (ka k)).2=0∧(qB 3 (ka k)).1.length≤262144:=by
 have hc:=Z0 k h
 have hl:=ZV 3 (zy 3 (ka k)) (by rw [kp];exact (kH.1 hc).2.2)
 rw [jW,vo] at hl
 have hb:=Q6 k hr
 have hq:zw 3 (ka k)=7:=rfl
 have hle:(zt 3 (zy 3 (ka k))).length≤262144:=Ws
 rw [bD hc hle]
 exact⟨rfl,hle⟩
def zeroV {α:Type}:VS α:=⟨0,0,⟨#[]⟩,[],[]⟩
theorem rep_zero {n:Nat}(S:Nat→Prop) (w:World):Rep (n+1) S w [.int .i64 0,.int .i64 0,.string ⟨#[]⟩,.slice none 0 0,.slice none 0 0] (zeroV:VS (V n)):=Ql S w (zeroV:VS (V n)) rfl rfl (Kd (i:=0) Wo Wo) (Kd (i:=0) Wo Wo)
theorem small_zero {n:Nat}:yA (n+1) (zeroV:VS (V n)):=⟨by show 1+0≤20000;omega,by show 0+0+0≤400000;omega⟩
theorem enc_zero {n:Nat}:qB (n+1) (zeroV:VS (V n))=([],40):=by
 have h:yQ (n+1) (zeroV:VS (V n))=40:=rfl
 have h2:=J1 (n:=n+1) (v:=(zeroV:VS (V n))) (by rw [h];decide)
 rw [h] at h2
 exact h2
theorem QB (k:zY) (hb:qX k.bits) (hr:k.root.length=32) (w:World) (ht:qC w) (hks:xN w):CL w 43 #[.agg (ye k)] (.string (yh k)):=by
 obtain⟨W0,Gb⟩:∃ W0,Hid (W0=w.alloc (.cells (ye k) 47)):=⟨_,qI rfl⟩
 have Ga:Hid (zb [] w W0):=qI (kA1 Gb.o)
 have HA:Hid (yw W0 w.heap.size k):=qI (by rw [Gb.o];exact zd rfl)
 have CV:=qI (keyValue_any k hb hr W0)
 have Gs:=qI hr
 have HT:=qI (ht.kept0 Ga.o)
 have Gl:=qI (hks.kept0 Ga.o)
 have Ge:Hid (yh k=if zI k=true then qp (zV (qB 3 (ka k)).1) else ⟨#[]⟩):=qI rfl
 have Gv:=qI (Km k hr)
 have CZ:Hid (∀ w1:World,zb [] W0 w1→Calls Tryz.prog 78 #[Z4] w1 fun e w'=>(∃ a c,e = .returned (.tuple #[.slice a 0 c,.int .i64 40]))∧zb [] w1 w'):=qI (fun w1 hk=>by
  refine (YH (n:=1) (rep_zero (n:=0) (fun _=>True) w1) small_zero Wo ((ht.kept0 Ga.o).kept0 hk)).mono ?_
  rintro e w' ⟨⟨a,c,he,-⟩,hk'⟩
  rw [enc_zero] at he
  exact⟨⟨a,c,he⟩,hk'⟩)
 obtain⟨KV,Gm⟩:∃ KV,Hid (KV=ka k):=⟨_,qI rfl⟩
 obtain⟨X,HX⟩:∃ X,Hid (X=(qB 3 (ka k)).1):=⟨_,qI rfl⟩
 have CE:Hid (zI k=true→∀ (w1:World) (cs:List Value) (S:Nat→Prop),zb [] W0 w1→Rep 3 S w1 cs KV→Calls Tryz.prog 78 #[.agg cs.toArray] w1 fun e w'=>(∃ a c,e = .returned (.tuple #[.slice a X.length c,.int .i64 0])∧zp w' (.slice a X.length c) X)∧zb [] w1 w'):=qI (fun hm w1 cs S hk hrep=>by
  rw [Gm.o] at hrep
  have h1:=YH hrep (small_key k hr) Wo ((ht.kept0 Ga.o).kept0 hk)
  rw [(Km k hr hm).1,← HX.o] at h1
  exact h1)
 have Gn:Hid (zI k=true→X.length≤262144):=qI (fun hm=>by rw [HX.o];exact (Km k hr hm).2)
 have Gt:Hid (yh k=if zI k=true then qp (zV X) else ⟨#[]⟩):=qI (by rw [HX.o];exact Ge.o)
 clear hb hr ht hks Gv HX Ge
 by_cases hm:zI k=true
 rotate_left
 ·have Gh:Hid (∀ w' e,bO W0 w' e k=(e = .returned Z4)):=qI (fun w' e=>by unfold bO;rw [if_neg hm])
  have Gi:Hid (yh k=⟨#[]⟩):=qI (by rw [Gt.o,if_neg hm])
  clear hm
  go_enter func43,ntmps43
  go_upto_region 1 with fail
  rw [← Gb.o]
  go_wp2_with first
   | (refine zO Wk (.tmp 1) Wk HA.o Gs.o Wk ?_)
   | (go_at_call 81;refine CV.o.mono ?_;rintro e w1 ⟨he,hk1⟩;rw [Gh.o] at he;subst he;have Gc:=qI hk1;clear hk1)
   | (go_at_call 78;refine (CZ.o _ Gc.o).mono ?_;rintro e w2 ⟨⟨a2,c2,rfl⟩,hk2⟩;have Gd:=qI hk2;clear hk2)
  go_ret
  exact⟨by rw [Gi.o];rfl,(Ga.o.then Gc.o).then Gd.o⟩
 have Gh:Hid (∀ w' e,bO W0 w' e k=New 3 W0 w' e (ka k)):=qI (fun w' e=>by unfold bO;rw [if_pos hm])
 have Gi:Hid (yh k=qp (zV X)):=qI (by rw [Gt.o,if_pos hm])
 have CE:=qI (CE.o hm)
 have Gn:=qI (Gn.o hm)
 rw [← Gm.o] at Gh
 clear hm Gm
 go_enter func43,ntmps43
 go_upto_region 1 with fail
 rw [← Gb.o]
 go_upto_region 4 with first
  | (refine zO Wk (.tmp 1) Wk HA.o Gs.o Wk ?_)
  | (go_at_call 81;refine CV.o.mono ?_;rintro e w1 ⟨he,hk1⟩;rw [Gh.o] at he;obtain⟨k3,m3,s3,p3,i3,c3,q3,j3,e3,rfl,ho3⟩:=Kv he;have Gw:=qI ho3;have Gc:=qI hk1;clear hk1 he ho3)
  | (go_at_call 78;refine (CE.o _ _ _ Gc.o Gw.o.rep).mono ?_;rintro e w2 ⟨⟨a2,c2,rfl,hb2⟩,hk2⟩;have Gx:=qI hb2;have Gd:=qI hk2;clear hk2 hb2)
 have CO:Hid (Calls Tryz.prog 82 #[.slice (some ⟨w2.heap.size,0,none⟩) 1 1] (w2.alloc (.cells #[.slice a2 X.length c2] 53)) fun e w'=>e = .returned (.agg ((zV X).map bv).toArray)∧zb [] (w2.alloc (.cells #[.slice a2 X.length c2] 53)) w'):=qI (by
  have hka:=(zb.refl [] w2).alloc (.cells #[.slice a2 X.length c2] 53)
  have h1:=of_any (w2.alloc (.cells #[.slice a2 X.length c2] 53)) w2.heap.size 0 1 [.slice a2 X.length c2] [X] (Qf w2 [.slice a2 X.length c2] _) ((zH.nil _).cons (Gx.o.kept0 hka)) (by have:=Gn.o;simp;omega) Wz ((Gl.o.kept0 (Gc.o.then Gd.o)).kept0 hka)
  rw [List.flatten_cons,List.flatten_nil,List.append_nil] at h1
  exact h1)
 have Gf:Hid (zb [] w2 (w2.alloc (.cells #[.slice a2 X.length c2] 53))):=qI (Wd.alloc _)
 have Gu:Hid (∀ (w4:World) (g:Nat),zR w4 g (zV X)→Calls Tryz.prog 44 #[.slice (some ⟨g,0,none⟩) 32 32] w4 fun e w'=>e = .returned (.string (qp (zV X)))∧zb [] w4 w'):=qI (fun w4 g h=>by
  have hb:zp w4 (.slice (some ⟨g,0,none⟩) (zV X).length 32) (zV X):=⟨Wz,.inr (.inr ⟨g,0,32,rfl,by rw [yt];omega,Wo,⟨h.range,h.lt⟩⟩)⟩
  have h1:=Ko hb (by rw [yt];decide) (by intro e;have:=yt X;rw [e] at this;cases this)
  rw [yt] at h1
  exact h1)
 generalize hsx:qp (zV X)=hx at Gu Gi
 clear hsx
 go_wp2_with first
  | (go_at_call 82;refine CO.o.mh ?_;rintro e w3 rfl Gj)
  | (refine zq Wk (.tmp 5) (.tmp 16) Wk (g:=w3.heap.size) (l0:=xe zu 0) (zd rfl) (zJ _ _) (yt _) Wk Wk ?_;intro w4 h4 hk4;have H4:=qI h4;have Gy:=qI hk4;clear h4 hk4;simp only [Act.put])
  | (go_at_call 44;refine (Gu.o _ _ H4.o).mh ?_;rintro e w5 rfl Gz)
 go_ret
 exact⟨by rw [Gi.o];rfl,(((((Ga.o.then Gc.o).then Gd.o).then Gf.o).then Gj.o).alloc _).trans Gy.o (by intro i hi;simp at hi;subst hi;refine .inr ?_;have:=((((Ga.o.then Gc.o).then Gd.o).then Gf.o).then Gj.o).size;omega) |>.then Gz.o⟩
theorem ZP (s:ByteArray) (hs:s.size≤140737488355328) (w:World):Calls Tryz.prog 96 #[.string s] w fun e w'=>(match yJ s with | none=>e = .returned (.tuple #[.slice none 0 0,.int .i64 10]) | some l=>∃ a c,e = .returned (.tuple #[.slice a l.length c,.int .i64 0])∧zp w' (.slice a l.length c) l∧∀ g,zW (.slice a l.length c)=some g→w.heap.size≤g)∧zb [] w w':=by
 unfold yJ
 by_cases h:s.size%2=0∧s.data.toList.all qf=true
 ·rw [if_pos h]
  refine (unhex_yes s hs h.1 h.2 w).mono ?_
  rintro e w' ⟨⟨a,c,rfl,ho⟩,hk⟩
  exact⟨⟨a,c,rfl,by
   have h1:=Slc.of_row ho
   exact h1,fun g hg=>(ho.lt g (z6 hg)).1⟩,hk⟩
 ·rw [if_neg h]
  refine unhex_no s hs ?_ w
  rw [not_and] at h
  rcases Nat.mod_two_eq_zero_or_one s.size with h1 | h1
  ·exact .inr (by simpa using h h1)
  ·exact .inl h1
def jl:List UInt8:=List.replicate 32 0
def yD:zY:=⟨0,0,jl⟩
theorem yK {ops:Array Oper}{rest:List Oper}{op:Oper}{a:Act}{w:World}{Q:Exit→Act→World→Prop}(hw:Region.wanted op (yielded ops a.tmps)=true) (x:Operand) (ho:op.op = .load 47 x) {g:Nat}{k:zY}(h0:yw w g k) (hl:k.root.length=32)
  (hx:a.eval x = .pointer (some ⟨g,0,none⟩)) (h:wpList Tryz.prog ops Q rest (a.put op.dst (.agg (ye k))) w):wpList Tryz.prog ops Q (op::rest) a w:=
 BigFrame.wpList_want hw fun _ hK=>wp_load_mid 47 x ho g 0 hx (kz k) _ h0.range underlying47 rfl (by rw [xE hl];exact YM) (hK _ _ h)
theorem KT (k:zY):∀ v∈kz k,v.oneCell'=true:=by
 intro v hv
 rcases List.mem_cons.1 hv with rfl | hv
 ·rfl
 rcases List.mem_cons.1 hv with rfl | hv
 ·rfl
 exact yL _ v hv
theorem yw.there {w:World}{g:Nat}{k:zY}(h:yw w g k) (hl:k.root.length=32):w.there g 0 34:=fun j hj=>by
 rw [Nat.zero_add]
 have hj':j<(kz k).length:=by rw [xE hl];exact hj
 exact⟨by rw [za (v:=(kz k)[j]) h (by simp [ye,hj'])];rfl,zh h⟩
theorem yw.lt {w:World}{g:Nat}{k:zY}(h:yw w g k):g<w.heap.size:=lt_of_block h
theorem yw.put {w:World}{g:Nat}{k k':zY}(h:yw w g k) (hl:k.root.length=32) (hl':k'.root.length=32):yw (w.setCells g 0 (kz k')) g k':=by
 obtain⟨cur,h1,h2,h3⟩:=xM g (kz k') 0 w _ h
 have hz:(ye k).size=34:=by simp [ye,xE hl]
 have e:cur=ye k':=by
  apply Array.ext
  ·rw [h2,hz];simp [ye,xE hl']
  ·intro i hi1 hi2
   have hi3:i<34:=by rw [h2,hz] at hi1;exact hi1
   have h4:=h3 i (by rw [hz];exact hi3)
   rw [if_pos (by rw [xE hl'];omega),Array.getElem?_eq_getElem hi1,Nat.sub_zero,List.getElem?_eq_getElem (by rw [xE hl'];exact hi3)] at h4
   rw [Option.some.inj h4]
   simp [ye]
 unfold yw
 rw [h1,e]
theorem yw.setRoot {w:World}{g:Nat}{b h:Int}{r r':List UInt8}(hk:yw w g ⟨b,h,r⟩) (hl:r.length=32) (hl':r'.length=32):yw (w.setCells g 2 (r'.map bv)) g ⟨b,h,r'⟩:=by
 obtain⟨cur,h1,h2,h3⟩:=xM g (r'.map bv) 2 w _ hk
 have hz:(ye ⟨b,h,r⟩).size=34:=by simp [ye,kz,hl]
 have e:cur=ye ⟨b,h,r'⟩:=by
  apply Array.ext'
  apply List.ext_getElem?
  intro i
  have e0:(ye ⟨b,h,r'⟩).toList = .int .i64 b :: .int .i64 h::r'.map bv:=rfl
  rw [e0,Array.getElem?_toList]
  by_cases hi:i<34
  ·rw [h3 i (by rw [hz];exact hi)]
   by_cases h2i:2≤i
   ·rw [if_pos (by simp [hl'];omega)]
    obtain⟨j,rfl⟩:∃ j,i=j+2:=⟨i - 2,Ws⟩
    rfl
   ·rw [if_neg Ws]
    obtain rfl | rfl:i=0∨i=1:=Ws
    ·rfl
    ·rfl
  ·rw [Array.getElem?_eq_none (by rw [h2,hz];omega),List.getElem?_eq_none (by simp [hl'];omega)]
 unfold yw
 rw [h1,e]
theorem xB {ops:Array Oper}{rest:List Oper}{op:Oper}{a:Act}{w:World}{Q:Exit→Act→World→Prop}(hgd:op.guard=none) (x y:Operand) (ho:op.op = .store 47 x y) {g:Nat}{k k0:zY}(h0:yw w g k0) (hl0:k0.root.length=32) (hl:k.root.length=32)
  (hx:a.eval x = .pointer (some ⟨g,0,none⟩)) (hy:a.eval y = .agg (ye k)) (h:∀ w',yw w' g k→zb [g] w w'→wpList Tryz.prog ops Q rest (a.put op.dst undef) w'):wpList Tryz.prog ops Q (op::rest) a w:=by
 have hsz:(ye k).size=34:=by simp [ye,xE hl]
 refine wpList_store_mid hgd 47 x y ho g 0 (ye k) hx hy (by rw [hsz];exact h0.there hl0) (by rw [hsz];exact YM) (all_oneCell_toArray (KT k)) (h _ ?_ (yo _ _ _ _))
 exact h0.put hl0 hl
theorem yw.var {w:World}{g:Nat}{k:zY}(h:yw w g k) (hl:k.root.length=32):(loadVar 47 ⟨g,0,none⟩).run Tryz.prog w = .ok (.agg (ye k)) w:=run_loadVar_mid (P:=Tryz.prog) w g 0 47 (kz k) _ h.range underlying47 rfl (by rw [xE hl];exact YM)
theorem QK {ops:Array Oper}{rest:List Oper}{op:Oper}{a:Act}{w:World}{Q:Exit→Act→World→Prop}(hgd:op.guard=none) (x y:Operand) (ho:op.op = .store 45 x y) {g:Nat}{b h:Int}{r l:List UInt8}(h0:yw w g ⟨b,h,r⟩) (hr:r.length=32) (hl:l.length=32)
  (hx:a.eval x = .pointer (some ⟨g,2,none⟩)) (hy:a.eval y = .agg (l.map bv).toArray) (hh:∀ w',yw w' g ⟨b,h,l⟩→zb [g] w w'→wpList Tryz.prog ops Q rest (a.put op.dst undef) w'):wpList Tryz.prog ops Q (op::rest) a w:=by
 have hsz:(l.map bv).toArray.size=32:=by simp [hl]
 refine wpList_store_mid hgd 45 x y ho g 2 (l.map bv).toArray hx hy (fun j hj=>?_) (by rw [hsz];exact xU) (one32 _) (hh _ ?_ (yo _ _ _ _))
 ·rw [hsz] at hj
  have h1:=h0.there hr (2+j) Ws
  rw [Nat.zero_add] at h1
  exact h1
 ·exact h0.setRoot hr hl
def qo (s:ByteArray):Bool:=match yJ s with | none=>false | some l=>decide (l.length=32)
theorem isId_any (s:ByteArray) (hs:s.size≤140737488355328) (w:World):CL w 54 #[.string s] (.bool (qo s)):=by
 have CU:=ZP s hs w
 have HI:Hid (qo s=match yJ s with | none=>false | some l=>decide (l.length=32)):=qI rfl
 clear hs
 rcases hu:yJ s with _ | l
 ·rw [hu] at CU HI
  have CU:=qI CU
  clear hu
  go_enter func54,ntmps54
  go_wp2_with (go_at_call 96;refine CU.o.mh ?_;rintro e w1 rfl HK)
  go_ret
  exact⟨by rw [HI.o];rfl,HK.o⟩
 ·rw [hu] at CU HI
  have CU:=qI CU
  have HI:Hid (qo s=decide (l.length=32)):=qI HI.o
  clear hu
  by_cases hl:l.length=32
  ·have f1:=(xH (a:=(l.length:Int)) (b:=32) Ws).1
   rw [decide_eq_true hl] at HI
   clear hl
   go_enter func54,ntmps54
   go_wp2_with (go_at_call 96;refine CU.o.mono ?_;rintro e w1 ⟨⟨a,c,rfl,-,-⟩,hk⟩;have HK:=qI hk;clear hk)
   go_ret
   exact⟨by rw [HI.o];rfl,HK.o⟩
  ·have f1:=(yF (a:=(l.length:Int)) (b:=32) Ws).1
   rw [decide_eq_false hl] at HI
   clear hl
   go_enter func54,ntmps54
   go_wp2_with (go_at_call 96;refine CU.o.mono ?_;rintro e w1 ⟨⟨a,c,rfl,-,-⟩,hk⟩;have HK:=qI hk;clear hk)
   go_ret
   exact⟨by rw [HI.o];rfl,HK.o⟩
structure qz where
 keys:List ByteArray
 thr:Int
def kL:List ByteArray→List ByteArray→Bool
 | _,[]=>true
 | seen,k::t=>!(seen.any (fun x=>decide (x=k)))&&qo k&&kL (seen++[k]) t
def yu (r:qz):Bool:=decide (r.keys.length≤16)&&(decide (1≤r.thr)&&(decide (r.thr≤r.keys.length)&&kL [] r.keys))
def xJ (w:World) (v:Value) (l:List ByteArray):Prop:=Slc w 1 v l.length (l.map Value.string)
theorem xJ.kept0 {w w':World}{v:Value}{l:List ByteArray}(h:xJ w v l) (k:zb [] w w'):xJ w' v l:=Slc.kept0 h k
theorem xJ.at {w:World}{a:Option Addr}{c:Nat}{l:List ByteArray}(h:xJ w (.slice a l.length c) l) {k:Nat}(hk:k<l.length):∃ g o,a=some ⟨g,o,none⟩∧w.cell? ⟨g,o+k,none⟩=some (.string l[k]):=by
 rcases h.2 with ⟨-,h0⟩ | ⟨h0,-⟩ | ⟨g,o,cap,h1,-,-,hr⟩
 ·omega
 ·omega
 ·simp only [Value.slice.injEq] at h1
  exact⟨g,o,h1.1,by have:=hr.at (j:=k) (by simpa using hk);simpa using this⟩
theorem QN {w:World}{r:qz}{a:Option Addr}{c:Nat}(h:xJ w (.slice a r.keys.length c) r.keys) (hz:∀ k,k∈r.keys→k.size≤140737488355328) (hlen:r.keys.length≤1000000000000) :
  CL w 24 #[.agg #[.slice a r.keys.length c,.int .i64 r.thr]] (.bool (yu r)):=by
 obtain⟨W0,Gb⟩:∃ W0,Hid (W0=w.alloc (.cells #[.slice a r.keys.length c,.int .i64 r.thr] 31)):=⟨_,qI rfl⟩
 have Ga:Hid (zb [] w W0):=qI (kA1 Gb.o)
 have Gp:Hid (W0.heap[w.heap.size]? = some (.cells #[.slice a r.keys.length c,.int .i64 r.thr] 31 (0,0))):=qI (by rw [Gb.o];exact zd rfl)
 have H:=qI (h.kept0 Ga.o)
 have HZ:=qI hz
 have HM:Hid (yu r=(decide (r.keys.length≤16)&&(decide (1≤r.thr)&&(decide (r.thr≤r.keys.length)&&kL [] r.keys)))):=qI rfl
 have c0:=za (o:=0) (v:=.slice a r.keys.length c) Gp.o rfl
 have c1:=za (o:=1) (v:=.int .i64 r.thr) Gp.o rfl
 have HL:=qI hlen
 clear h hz hlen
 by_cases k1:r.keys.length≤16
 rotate_left
 ·have k1I:(16:Int)<r.keys.length:=by omega
  rw [decide_eq_false k1] at HM
  clear k1
  go_enter func24,ntmps24
  go_upto_region 1 with fail
  rw [← Gb.o]
  go_wp2_with fail
  go_ret
  exact⟨by rw [HM.o];rfl,Ga.o⟩
 have k1I:(r.keys.length:Int)≤16:=Ws
 rw [decide_eq_true k1] at HM
 by_cases k2:1≤r.thr
 rotate_left
 ·have k2I:r.thr<1:=by omega
  rw [decide_eq_false k2] at HM
  clear k1 k2
  go_enter func24,ntmps24
  go_upto_region 1 with fail
  rw [← Gb.o]
  go_wp2_with fail
  go_ret
  exact⟨by rw [HM.o];rfl,Ga.o⟩
 rw [decide_eq_true k2] at HM
 by_cases k3:r.thr≤r.keys.length
 rotate_left
 ·have k3I:(r.keys.length:Int)<r.thr:=by omega
  rw [decide_eq_false k3] at HM
  clear k1 k3
  go_enter func24,ntmps24
  go_upto_region 1 with fail
  rw [← Gb.o]
  go_wp2_with fail
  go_ret
  exact⟨by rw [HM.o];rfl,Ga.o⟩
 rw [decide_eq_true k3] at HM
 have Gq:Hid (yu r=kL [] r.keys):=qI (by rw [HM.o];simp)
 have Ja:=qI k1
 clear k1
 have hmm:=@run_makeMap Tryz.prog
 obtain⟨W1,Gr⟩:∃ W1,Hid (W1=W0.alloc (.map #[] 0)):=⟨_,qI rfl⟩
 have Gc:Hid (zb [] W0 W1):=qI (kA1 Gr.o)
 have Jb:Hid (kb W1 W0.heap.size []):=qI (by rw [Gr.o];exact seen_new rfl)
 have Jd:Hid (W0.heap.size=w.heap.size+1):=qI (by rw [Gb.o];simp)
 go_enter func24,ntmps24
 go_upto_region 1 with fail
 rw [← Gb.o]
 go_upto_region 4 with fail
 rw [← Gr.o]
 clear c0 c1 hmm
 have c0:=Gc.o.cell (za (o:=0) (v:=.slice a r.keys.length c) Gp.o rfl) Wz
 go_wp2_with fail
 clear c0
 go_loopw [5,27] (fun _ i wr=>∃ k:Nat,i = .int .i64 k∧k≤r.keys.length∧kb wr W0.heap.size (r.keys.take k)∧kL (r.keys.take k) (r.keys.drop k)=kL [] r.keys∧zb [] W0 wr) (fun _ i _=>r.keys.length-(intOf i).toNat)
 case atStart=>exact⟨0,rfl,Nat.zero_le _,Jb.o,rfl,Gc.o⟩
 case round=>
  obtain⟨k,rfl,hk,hs,hg,hkr⟩:=hrel
  have HS:=qI hs
  have HG:=qI hg
  have Gg:=qI hkr
  clear hs hg hkr
  by_cases hlt:k<r.keys.length
  ·have hltI:(k:Int)<r.keys.length:=by omega
   obtain⟨g,o,rfl,q0⟩:=(H.o.kept0 Gg.o).at hlt
   have hks:r.keys[k].size≤140737488355328:=HZ.o _ (List.getElem_mem hlt)
   have Gk:Hid (r.keys.take (k+1)=r.keys.take k++[r.keys[k]]):=qI (List.take_succ_eq_append_getElem hlt)
   have HD:Hid (kL (r.keys.take k) (r.keys.drop k)=(!((r.keys.take k).any (fun x=>decide (x=r.keys[k])))&&qo r.keys[k]&&kL (r.keys.take k++[r.keys[k]]) (r.keys.drop (k+1)))):=qI (by
    conv=>lhs;rw [List.drop_eq_getElem_cons hlt]
    rfl)
   have hsl:(r.keys.take k).length≤20000:=by have:=Ja.o;rw [List.length_take];omega
   have CI:=qI (isId_any r.keys[k] hks wr)
   revert q0 hks Gk HD CI
   generalize r.keys[k]=key
   intro q0 hks Gk HD CI
   have hlook:=HS.o.look key Ws
   revert hlook HD CI
   generalize (r.keys.take k).any (fun x=>decide (x=key))=b
   generalize qo key=ok
   intro HD CI hlook
   have Gl:=qI hks
   clear hks
   cases b with
   | true=>
    go_wp2_with fail
    go_ret
    rw [Gq.o,← HG.o,HD.o]
    exact⟨Wz,Ga.o.then Gg.o⟩
   | false=>
    cases ok with
    | false=>
     go_wp2_with (go_at_call 54;refine CI.o.mh ?_;rintro e w2 rfl Gd)
     go_ret
     rw [Gq.o,← HG.o,HD.o]
     exact⟨Wz,(Ga.o.then Gg.o).then Gd.o⟩
    | true=>
     go_wp2_with (go_at_call 54;refine CI.o.mono ?_;rintro e w2 ⟨rfl,hk2⟩;have Gd:=qI hk2;obtain⟨w3,hput,hs3,hk3⟩:=(HS.o.kept0 Gd.o).put key (by have:=Gl.o;omega) Ws;have Jc:=qI hs3;have Gj:=qI hk3;clear hk2 hs3 hk3)
     case roundEnd=>
      refine⟨⟨k+1,by go_num,Ws,?_,?_,?_⟩,by simp [intOf];omega⟩
      ·rw [Gk.o];exact Jc.o
      ·rw [← HG.o,HD.o,Gk.o];simp
      ·exact (Gg.o.then Gd.o).trans Gj.o (fun i hi=>by simp at hi;subst hi;exact .inr (Nat.le_refl _))
  ·obtain rfl:k=r.keys.length:=by omega
   go_wp2_with fail
   go_ret
   rw [Gq.o,← HG.o,List.drop_length]
   exact⟨rfl,Ga.o.then Gg.o⟩
theorem isId_size {s:ByteArray}(h:qo s=true):s.size=64:=by
 unfold qo yJ at h
 split at h
 ·cases h
 ·rename_i l hl
  split at hl
  ·rename_i hc
   simp only [Option.some.injEq] at hl
   have h1:=jX s.data.toList
   rw [hl] at h1
   simp only [decide_eq_true_eq] at h
   have h2:s.data.toList.length=s.size:=Wz
   omega
  ·cases hl
theorem ids_all:∀ (l seen:List ByteArray),kL seen l=true→∀ s,s∈l→qo s=true
 | [],_,_,_,h=>by cases h
 | k::t,seen,h,s,hs=>by
  unfold kL at h
  simp only [Bool.and_eq_true] at h
  rcases List.mem_cons.1 hs with rfl | hs
  ·exact h.1.2
  ·exact ids_all t _ h.2 s hs
theorem mayRole_ids {r:qz}(h:yu r=true):r.keys.length≤16∧1≤r.thr∧r.thr≤16∧r.thr≤r.keys.length∧∀ s,s∈r.keys→qo s=true∧s.size=64:=by
 unfold yu at h
 simp only [Bool.and_eq_true,decide_eq_true_eq] at h
 exact⟨h.1,h.2.1,Ws,h.2.2.1,fun s hs=>⟨ids_all _ _ h.2.2.2 s hs,isId_size (ids_all _ _ h.2.2.2 s hs)⟩⟩
def put2 (w:World) (g:Nat) (a b:Value):World:=(w.setCell ⟨g,0,none⟩ a).setCell ⟨g,1,none⟩ b
theorem jQ (w:World) (g:Nat) (a b:Value):zb [g] w (put2 w g a b):=((zb.refl [g] w).setCell (.inl Wz) _).setCell (.inl Wz) _
theorem Kp {w:World}{g:Nat}{c0 c1:Value}{t:Nat}{f:Nat×Nat}(h:w.heap[g]? = some (.cells #[c0,c1] t f)) (a b:Value):(put2 w g a b).heap[g]? = some (.cells #[a,b] t f):=by
 unfold put2
 have h1:=zg (i:=0) (v:=a) (d:=#[a,c1]) h rfl
 exact zg (i:=1) (v:=b) (d:=#[a,b]) h1 rfl
end Go.Proofs.YtibnfbglanpoiaaGreatDoor

/- Parts of one proof, merged: XJC XJD XJE XJF. -/
import Derived.Test.YtibnfbglanpoiaaGreatDoorQeG
set_option linter.all false
set_option maxHeartbeats 12800000
set_option maxRecDepth 100000
namespace Go.Proofs.YtibnfbglanpoiaaGreatDoor
open Go.Proofs.Tryz
open Go.RowKit
def KS:List Int:=[1116352408,1899447441,3049323471,3921009573,961987163,1508970993,2453635748,2870763221,3624381080,310598401,607225278,1426881987,1925078388,2162078206,2614888103,3248222580,3835390401,4022224774,264347078,604807628,770255983,1249150122,1555081692,1996064986,2554220882,2821834349,2952996808,3210313671,3336571891,3584528711,113926993,338241895,666307205,773529912,1294757372,1396182291,1695183700,1986661051,2177026350,2456956037,2730485921,2820302411,3259730800,3345764771,3516065817,3600352804,4094571909,275423344,430227734,506948616,659060556,883997877,958139571,1322822218,1537002063,1747873779,1955562222,2024104815,2227730452,2361852424,2428436474,2756734187,3204031479,3329325298]
theorem ks_len:KS.length=64:=rfl
def xN (w:World):Prop:=w.rangeAt 0 0 (yg KS 0)
theorem xN.kept0 {w w':World}(h:xN w) (k:zb [] w w'):xN w':=fun j v hv=>k.cell (h j v hv) Wz
structure S8 where
 a:Int
 b:Int
 c:Int
 d:Int
 e:Int
 f:Int
 g:Int
 h:Int
def t1W (s:S8) (K W:Int):Int:=((s.h+bits .xor .u32 (bits .xor .u32 (yy 67108864 64 s.e) (yy 2097152 2048 s.e)) (yy 128 33554432 s.e)+bits .xor .u32 (bits .and .u32 s.e s.f) (bits .and .u32 (bits .xor .u32 (if IntKind.u32.signed=true then -1 else IntKind.u32.max) s.e) s.g)+K)%4294967296+W)%4294967296
def t2W (s:S8):Int:=(bits .xor .u32 (bits .xor .u32 (yy 1073741824 4 s.a) (yy 524288 8192 s.a)) (yy 1024 4194304 s.a)+bits .xor .u32 (bits .xor .u32 (bits .and .u32 s.a s.b) (bits .and .u32 s.a s.c)) (bits .and .u32 s.b s.c))%4294967296
def roundS (s:S8) (K W:Int):S8:=⟨(t1W s K W+t2W s)%4294967296,s.a,s.b,s.c,(s.d+t1W s K W)%4294967296,s.e,s.f,s.g⟩
def runS (ws:List Int) (s:S8):Nat→S8
 | 0=>s
 | t+1=>roundS (runS ws s t) (KS.getD t 0) (ws.getD t 0)
def S8.list (s:S8):List Int:=[s.a,s.b,s.c,s.d,s.e,s.f,s.g,s.h]
def xY (s:S8) (l:List UInt8):S8:=
 let r:=runS (yE l 64) s 64
 ⟨(s.a+r.a)%4294967296,(s.b+r.b)%4294967296,(s.c+r.c)%4294967296,(s.d+r.d)%4294967296,(s.e+r.e)%4294967296,(s.f+r.f)%4294967296,(s.g+r.g)%4294967296,(s.h+r.h)%4294967296⟩
def mixA (s r:S8) (j:Nat):Array Value:=#[.int .u32 (if 0<j then (s.a+r.a)%4294967296 else s.a),.int .u32 (if 1<j then (s.b+r.b)%4294967296 else s.b),.int .u32 (if 2<j then (s.c+r.c)%4294967296 else s.c),.int .u32 (if 3<j then (s.d+r.d)%4294967296 else s.d),.int .u32 (if 4<j then (s.e+r.e)%4294967296 else s.e),.int .u32 (if 5<j then (s.f+r.f)%4294967296 else s.f),.int .u32 (if 6<j then (s.g+r.g)%4294967296 else s.g),.int .u32 (if 7<j then (s.h+r.h)%4294967296 else s.h)]
theorem index_words {cs:Array Value}{t:Nat}{x:Int}(h:cs[t]? = some (.int .u32 x)) (ht:(t:Int)<64) (W:World):(Instr.index 169 (.agg cs) (.int .i64 t)).run Tryz.prog W = .ok (.int .u32 x) W:=by
 have hs:=sizeOf134 W
 have ha:=isAgg134 W
 unfold Instr.index
 simp [asIntOf,run_underlying underlying169,hs,part,ha,h,Sem.run_bind]
 intro h9;omega
theorem qr {cs:Array Value}{t:Nat}{x:Int}(h:cs[t]? = some (.int .u32 x)) (ht:(t:Int)<8) (W:World):(Instr.index 135 (.agg cs) (.int .i64 t)).run Tryz.prog W = .ok (.int .u32 x) W:=by
 have hs:=sizeOf134 W
 have ha:=isAgg134 W
 unfold Instr.index
 simp [asIntOf,run_underlying underlying135,hs,part,ha,h,Sem.run_bind]
 intro h9;omega
theorem QZ (w:World):(w.alloc (.cells (yg [] 64).toArray 169)).there w.heap.size 0 64:=fun j hj=>by
 rw [Nat.zero_add]
 have hb:=heap_alloc_new w (.cells (yg [] 64).toArray 169)
 exact⟨by rw [za hb (by simpa using words_nil j 64 hj)];rfl,zh hb⟩
theorem block_any (w:World) (s:S8) (a:Option Addr) (c:Nat) (l:List UInt8) (hl:l.length=64) (hb:zp w (.slice a 64 c) l) (hk:xN w) :
  Calls Tryz.prog 153 #[.agg #[.int .u32 s.a,.int .u32 s.b,.int .u32 s.c,.int .u32 s.d,.int .u32 s.e,.int .u32 s.f,.int .u32 s.g,.int .u32 s.h],.slice a 64 c] w fun e w'=>
   e = .returned (.agg #[.int .u32 (xY s l).a,.int .u32 (xY s l).b,.int .u32 (xY s l).c,.int .u32 (xY s l).d,.int .u32 (xY s l).e,.int .u32 (xY s l).f,.int .u32 (xY s l).g,.int .u32 (xY s l).h])∧zb [] w w':=by
 obtain⟨W0,Gf⟩:∃ W0,Hid (W0=(w.alloc (.cells #[.int .u32 s.a,.int .u32 s.b,.int .u32 s.c,.int .u32 s.d,.int .u32 s.e,.int .u32 s.f,.int .u32 s.g,.int .u32 s.h] 135)).alloc (.cells #[.int .u32 0,.int .u32 0,.int .u32 0,.int .u32 0,.int .u32 0,.int .u32 0,.int .u32 0,.int .u32 0] 135)):=⟨_,qI rfl⟩
 have Gh:Hid (zb [] w W0):=qI (kA2 Gf.o)
 have Gk:Hid (W0.heap[w.heap.size]? = some (.cells #[.int .u32 s.a,.int .u32 s.b,.int .u32 s.c,.int .u32 s.d,.int .u32 s.e,.int .u32 s.f,.int .u32 s.g,.int .u32 s.h] 135 (0,0))):=qI (by rw [Gf.o];exact ((zb.refl [] _).alloc _).heap (zd rfl) Wz)
 have Gr:Hid (W0.heap[w.heap.size+1]? = some (.cells #[.int .u32 0,.int .u32 0,.int .u32 0,.int .u32 0,.int .u32 0,.int .u32 0,.int .u32 0,.int .u32 0] 135 (0,0))):=qI (by rw [Gf.o];exact zd Wz)
 have CS:=qI (sched_any W0 a c l hl (hb.kept0 Gh.o))
 have Gs:=qI hk
 clear hl hb hk
 go_enter func153,ntmps153
 go_upto_region 1 with fail
 rw [← Gf.o]
 go_wp2_with fail
 refine CS.o.mono ?_
 rintro e w1 ⟨rfl,hk1⟩
 have Gd:=qI hk1
 clear hk1 CS
 obtain⟨WS,hWS⟩:∃ WS,WS=yE l 64:=⟨_,rfl⟩
 have Gt:=qI hWS
 rw [← hWS]
 have hwl:WS.length=64:=by rw [hWS,yf]
 have Gu:=qI hwl
 obtain⟨CC,hCC⟩:∃ CC,CC=yg WS 0:=⟨_,rfl⟩
 rw [← hCC]
 have hlen:CC.length=64:=by rw [hCC,words_len,hwl]
 have hi2:((Tryz.prog).info? 169).map (·.size)=some CC.toArray.size:=by rw [List.size_toArray,hlen];kernel_rfl
 have hth:(w1.alloc (.cells (yg [] 64).toArray 169)).there w1.heap.size 0 CC.toArray.size:=by have h:=QZ w1;rwa [show CC.toArray.size=64 by simpa using hlen]
 have hone:CC.toArray.all (·.oneCell')=true:=Array.all_eq_true_iff_forall_mem.2 (fun v hv=>by rw [hCC] at hv;exact words_one _ _ v (by simpa using hv))
 have Gv:=qI hCC
 clear hWS hwl hCC
 go_wp2_with (refine wpList_store_mid Wk 169 (.tmp 5) (.tmp 25) Wk w1.heap.size 0 CC.toArray Wk Wk hth hi2 hone ?_)
 try simp only [zA,zN,zB,zC,zD]
 have hra:((w1.alloc (.cells (yg [] 64).toArray 169)).setCells w1.heap.size 0 CC.toArray.toList).rangeAt w1.heap.size 0 CC:=World.rangeAt_setCells_same _ _ _ _ (by simpa using hth)
 have hk2:zb [] w1 ((w1.alloc (.cells (yg [] 64).toArray 169)).setCells w1.heap.size 0 CC.toArray.toList):=vt (((zb.refl [w1.heap.size] w1).alloc _).trans' (yo _ _ _ _)) Wz
 change Code.wp _ _ _ _ ((w1.alloc (.cells (yg [] 64).toArray 169)).setCells w1.heap.size 0 CC.toArray.toList)
 revert hra hk2
 generalize (w1.alloc (.cells (yg [] 64).toArray 169)).setCells w1.heap.size 0 CC.toArray.toList=W2
 intro hra hk2
 have Gw:=qI hra
 have Gl:=qI (Gd.o.then hk2)
 have hb2:=Gl.o.heap Gk.o Wz
 have E0:=zz (za (o:=0) (v:=.int .u32 s.a) hb2 rfl)
 have E1:=zz (za (o:=1) (v:=.int .u32 s.b) hb2 rfl)
 have E2:=zz (za (o:=2) (v:=.int .u32 s.c) hb2 rfl)
 have E3:=zz (za (o:=3) (v:=.int .u32 s.d) hb2 rfl)
 have E4:=zz (za (o:=4) (v:=.int .u32 s.e) hb2 rfl)
 have E5:=zz (za (o:=5) (v:=.int .u32 s.f) hb2 rfl)
 have E6:=zz (za (o:=6) (v:=.int .u32 s.g) hb2 rfl)
 have E7:=zz (za (o:=7) (v:=.int .u32 s.h) hb2 rfl)
 clear hra hk2 hb2 hi2 hth hone
 refine yn W2 Wr Wr Wd ?_
 repeat go_big_quiet_step (fail)
 refine wpQuiet_nil ?_
 intro w3 hk3
 have Gm:=qI (Gl.o.then hk3)
 have Gi:=qI hk3
 clear E0 E1 E2 E3 E4 E5 E6 E7 hk3
 have hks:w3.rangeAt 0 0 (yg KS 0):=Gs.o.kept0 (Gh.o.then Gm.o)
 have hik:((Tryz.prog).info? 169).map (·.size)=some (yg KS 0).length:=Wr
 go_upto_region 5 with fail
 refine wp_region_list ?_
 change wpList _ _ _ [_,_] _ _
 refine wpList_load_mid Wk 169 (.global 0) Wk 0 0 Wk (yg KS 0) _ hks underlying169 rfl hik ?_
 obtain⟨KC,hKC⟩:∃ KC,KC=(yg KS 0).toArray:=⟨_,rfl⟩
 rw [← hKC]
 have Gn:=qI hKC
 clear hks hik hKC
 try simp only [zA,zN,zB,zC,zD]
 go_wp2_with fail
 go_loopw [6,7,8,9,10,11,12,13,14,15,16,17,43] (fun a b c d e f g h _ _ _ _ i wr=>∃ t:Nat,i = .int .i64 t∧t≤64∧zb [] w3 wr∧∃ r:S8,r=runS WS s t∧a = .int .u32 r.a∧b = .int .u32 r.b∧c = .int .u32 r.c∧d = .int .u32 r.d∧e = .int .u32 r.e∧f = .int .u32 r.f∧g = .int .u32 r.g∧h = .int .u32 r.h) (fun _ _ _ _ _ _ _ _ _ _ _ _ i _=>64-(intOf i).toNat)
 case atStart=>exact⟨0,rfl,Wo,Wd,s,rfl,rfl,rfl,rfl,rfl,rfl,rfl,rfl,rfl⟩
 case round=>
  obtain⟨t,rfl,ht,hkw,r,hr,rfl,rfl,rfl,rfl,rfl,rfl,rfl,rfl⟩:=hrel
  have HR:=qI hr
  have Gx:=qI hkw
  by_cases hlt:t<64
  rotate_left
  ·obtain rfl:t=64:=by omega
   have Ge:=qI (Gm.o.then hkw)
   clear hlt ht hkw hr
   go_wp2_with fail
   obtain⟨WR,rfl⟩:∃ x,x=wr:=⟨_,rfl⟩
   go_loopw [18,19,114] (fun _ _ i wq=>∃ j:Nat,i = .int .i64 j∧j≤8∧zb [w.heap.size] WR wq∧wq.heap[w.heap.size]? = some (.cells (mixA s r j) 135 (0,0))) (fun _ _ i _=>8-(intOf i).toNat)
   case atStart=>exact⟨0,rfl,Wo,Wd,Ge.o.heap Gk.o Wz⟩
   case round=>
    obtain⟨j,rfl,hj,hkv,hbl⟩:=hrel
    have Gc:=qI hkv
    have Ga:=qI hbl
    clear hkv hbl
    have hjj:j=0∨j=1∨j=2∨j=3∨j=4∨j=5∨j=6∨j=7∨j=8:=Ws
    clear hj
    rcases hjj with rfl | rfl | rfl | rfl | rfl | rfl | rfl | rfl | rfl
    ·have q0:=za (o:=0) (v:=.int .u32 s.a) Ga.o rfl
     have z0:=zh (o:=0) Ga.o
     have hx8:∀ W,(Instr.index 135 (.agg #[.int .u32 r.a,.int .u32 r.b,.int .u32 r.c,.int .u32 r.d,.int .u32 r.e,.int .u32 r.f,.int .u32 r.g,.int .u32 r.h]) (.int .i64 0)).run Tryz.prog W = .ok (.int .u32 r.a) W:=qr (t:=0) rfl Wo
     go_wp2_with fail
     case roundEnd=>exact⟨⟨1,by go_num,Wo,Gc.o.trans' ((zb.refl [w.heap.size] wr).setCell (.inl Wz) _),zg (i:=0) (v:=.int .u32 ((s.a+r.a)%4294967296)) Ga.o rfl⟩,by simp [intOf]⟩
    ·have q0:=za (o:=1) (v:=.int .u32 s.b) Ga.o rfl
     have z0:=zh (o:=1) Ga.o
     have hx8:∀ W,(Instr.index 135 (.agg #[.int .u32 r.a,.int .u32 r.b,.int .u32 r.c,.int .u32 r.d,.int .u32 r.e,.int .u32 r.f,.int .u32 r.g,.int .u32 r.h]) (.int .i64 1)).run Tryz.prog W = .ok (.int .u32 r.b) W:=qr (t:=1) rfl Wo
     go_wp2_with fail
     case roundEnd=>exact⟨⟨2,by go_num,Wo,Gc.o.trans' ((zb.refl [w.heap.size] wr).setCell (.inl Wz) _),zg (i:=1) (v:=.int .u32 ((s.b+r.b)%4294967296)) Ga.o rfl⟩,by simp [intOf]⟩
    ·have q0:=za (o:=2) (v:=.int .u32 s.c) Ga.o rfl
     have z0:=zh (o:=2) Ga.o
     have hx8:∀ W,(Instr.index 135 (.agg #[.int .u32 r.a,.int .u32 r.b,.int .u32 r.c,.int .u32 r.d,.int .u32 r.e,.int .u32 r.f,.int .u32 r.g,.int .u32 r.h]) (.int .i64 2)).run Tryz.prog W = .ok (.int .u32 r.c) W:=qr (t:=2) rfl Wo
     go_wp2_with fail
     case roundEnd=>exact⟨⟨3,by go_num,Wo,Gc.o.trans' ((zb.refl [w.heap.size] wr).setCell (.inl Wz) _),zg (i:=2) (v:=.int .u32 ((s.c+r.c)%4294967296)) Ga.o rfl⟩,by simp [intOf]⟩
    ·have q0:=za (o:=3) (v:=.int .u32 s.d) Ga.o rfl
     have z0:=zh (o:=3) Ga.o
     have hx8:∀ W,(Instr.index 135 (.agg #[.int .u32 r.a,.int .u32 r.b,.int .u32 r.c,.int .u32 r.d,.int .u32 r.e,.int .u32 r.f,.int .u32 r.g,.int .u32 r.h]) (.int .i64 3)).run Tryz.prog W = .ok (.int .u32 r.d) W:=qr (t:=3) rfl Wo
     go_wp2_with fail
     case roundEnd=>exact⟨⟨4,by go_num,Wo,Gc.o.trans' ((zb.refl [w.heap.size] wr).setCell (.inl Wz) _),zg (i:=3) (v:=.int .u32 ((s.d+r.d)%4294967296)) Ga.o rfl⟩,by simp [intOf]⟩
    ·have q0:=za (o:=4) (v:=.int .u32 s.e) Ga.o rfl
     have z0:=zh (o:=4) Ga.o
     have hx8:∀ W,(Instr.index 135 (.agg #[.int .u32 r.a,.int .u32 r.b,.int .u32 r.c,.int .u32 r.d,.int .u32 r.e,.int .u32 r.f,.int .u32 r.g,.int .u32 r.h]) (.int .i64 4)).run Tryz.prog W = .ok (.int .u32 r.e) W:=qr (t:=4) rfl Wo
     go_wp2_with fail
     case roundEnd=>exact⟨⟨5,by go_num,Wo,Gc.o.trans' ((zb.refl [w.heap.size] wr).setCell (.inl Wz) _),zg (i:=4) (v:=.int .u32 ((s.e+r.e)%4294967296)) Ga.o rfl⟩,by simp [intOf]⟩
    ·have q0:=za (o:=5) (v:=.int .u32 s.f) Ga.o rfl
     have z0:=zh (o:=5) Ga.o
     have hx8:∀ W,(Instr.index 135 (.agg #[.int .u32 r.a,.int .u32 r.b,.int .u32 r.c,.int .u32 r.d,.int .u32 r.e,.int .u32 r.f,.int .u32 r.g,.int .u32 r.h]) (.int .i64 5)).run Tryz.prog W = .ok (.int .u32 r.f) W:=qr (t:=5) rfl Wo
     go_wp2_with fail
     case roundEnd=>exact⟨⟨6,by go_num,Wo,Gc.o.trans' ((zb.refl [w.heap.size] wr).setCell (.inl Wz) _),zg (i:=5) (v:=.int .u32 ((s.f+r.f)%4294967296)) Ga.o rfl⟩,by simp [intOf]⟩
    ·have q0:=za (o:=6) (v:=.int .u32 s.g) Ga.o rfl
     have z0:=zh (o:=6) Ga.o
     have hx8:∀ W,(Instr.index 135 (.agg #[.int .u32 r.a,.int .u32 r.b,.int .u32 r.c,.int .u32 r.d,.int .u32 r.e,.int .u32 r.f,.int .u32 r.g,.int .u32 r.h]) (.int .i64 6)).run Tryz.prog W = .ok (.int .u32 r.g) W:=qr (t:=6) rfl Wo
     go_wp2_with fail
     case roundEnd=>exact⟨⟨7,by go_num,Wo,Gc.o.trans' ((zb.refl [w.heap.size] wr).setCell (.inl Wz) _),zg (i:=6) (v:=.int .u32 ((s.g+r.g)%4294967296)) Ga.o rfl⟩,by simp [intOf]⟩
    ·have q0:=za (o:=7) (v:=.int .u32 s.h) Ga.o rfl
     have z0:=zh (o:=7) Ga.o
     have hx8:∀ W,(Instr.index 135 (.agg #[.int .u32 r.a,.int .u32 r.b,.int .u32 r.c,.int .u32 r.d,.int .u32 r.e,.int .u32 r.f,.int .u32 r.g,.int .u32 r.h]) (.int .i64 7)).run Tryz.prog W = .ok (.int .u32 r.h) W:=qr (t:=7) rfl Wo
     go_wp2_with fail
     case roundEnd=>exact⟨⟨8,by go_num,Wo,Gc.o.trans' ((zb.refl [w.heap.size] wr).setCell (.inl Wz) _),zg (i:=7) (v:=.int .u32 ((s.h+r.h)%4294967296)) Ga.o rfl⟩,by simp [intOf]⟩
    have Gb:Hid (wr.heap[w.heap.size+1]? = some (.cells #[.int .u32 0,.int .u32 0,.int .u32 0,.int .u32 0,.int .u32 0,.int .u32 0,.int .u32 0,.int .u32 0] 135 (0,0))):=qI (Gc.o.heap (Ge.o.heap Gr.o Wz) Wz)
    have d0:=za (o:=0) (v:=.int .u32 0) Gb.o rfl
    have f0:=zh (o:=0) Gb.o
    have q0:=za (o:=0) (v:=.int .u32 ((s.a+r.a)%4294967296)) Ga.o rfl
    have d1:=za (o:=1) (v:=.int .u32 0) Gb.o rfl
    have f1:=zh (o:=1) Gb.o
    have q1:=za (o:=1) (v:=.int .u32 ((s.b+r.b)%4294967296)) Ga.o rfl
    have d2:=za (o:=2) (v:=.int .u32 0) Gb.o rfl
    have f2:=zh (o:=2) Gb.o
    have q2:=za (o:=2) (v:=.int .u32 ((s.c+r.c)%4294967296)) Ga.o rfl
    have d3:=za (o:=3) (v:=.int .u32 0) Gb.o rfl
    have f3:=zh (o:=3) Gb.o
    have q3:=za (o:=3) (v:=.int .u32 ((s.d+r.d)%4294967296)) Ga.o rfl
    have d4:=za (o:=4) (v:=.int .u32 0) Gb.o rfl
    have f4:=zh (o:=4) Gb.o
    have q4:=za (o:=4) (v:=.int .u32 ((s.e+r.e)%4294967296)) Ga.o rfl
    have d5:=za (o:=5) (v:=.int .u32 0) Gb.o rfl
    have f5:=zh (o:=5) Gb.o
    have q5:=za (o:=5) (v:=.int .u32 ((s.f+r.f)%4294967296)) Ga.o rfl
    have d6:=za (o:=6) (v:=.int .u32 0) Gb.o rfl
    have f6:=zh (o:=6) Gb.o
    have q6:=za (o:=6) (v:=.int .u32 ((s.g+r.g)%4294967296)) Ga.o rfl
    have d7:=za (o:=7) (v:=.int .u32 0) Gb.o rfl
    have f7:=zh (o:=7) Gb.o
    have q7:=za (o:=7) (v:=.int .u32 ((s.h+r.h)%4294967296)) Ga.o rfl
    go_wp2_with fail
    clear d0 f0 q0 d1 f1 q1 d2 f2 q2 d3 f3 q3 d4 f4 q4 d5 f5 q5 d6 f6 q6 d7 f7 q7
    have hb0:=zg (i:=0) (v:=.int .u32 ((s.a+r.a)%4294967296)) (d:=#[.int .u32 ((s.a+r.a)%4294967296),.int .u32 0,.int .u32 0,.int .u32 0,.int .u32 0,.int .u32 0,.int .u32 0,.int .u32 0]) Gb.o rfl
    have hb1:=zg (i:=1) (v:=.int .u32 ((s.b+r.b)%4294967296)) (d:=#[.int .u32 ((s.a+r.a)%4294967296),.int .u32 ((s.b+r.b)%4294967296),.int .u32 0,.int .u32 0,.int .u32 0,.int .u32 0,.int .u32 0,.int .u32 0]) hb0 rfl
    have hb2:=zg (i:=2) (v:=.int .u32 ((s.c+r.c)%4294967296)) (d:=#[.int .u32 ((s.a+r.a)%4294967296),.int .u32 ((s.b+r.b)%4294967296),.int .u32 ((s.c+r.c)%4294967296),.int .u32 0,.int .u32 0,.int .u32 0,.int .u32 0,.int .u32 0]) hb1 rfl
    have hb3:=zg (i:=3) (v:=.int .u32 ((s.d+r.d)%4294967296)) (d:=#[.int .u32 ((s.a+r.a)%4294967296),.int .u32 ((s.b+r.b)%4294967296),.int .u32 ((s.c+r.c)%4294967296),.int .u32 ((s.d+r.d)%4294967296),.int .u32 0,.int .u32 0,.int .u32 0,.int .u32 0]) hb2 rfl
    have hb4:=zg (i:=4) (v:=.int .u32 ((s.e+r.e)%4294967296)) (d:=#[.int .u32 ((s.a+r.a)%4294967296),.int .u32 ((s.b+r.b)%4294967296),.int .u32 ((s.c+r.c)%4294967296),.int .u32 ((s.d+r.d)%4294967296),.int .u32 ((s.e+r.e)%4294967296),.int .u32 0,.int .u32 0,.int .u32 0]) hb3 rfl
    have hb5:=zg (i:=5) (v:=.int .u32 ((s.f+r.f)%4294967296)) (d:=#[.int .u32 ((s.a+r.a)%4294967296),.int .u32 ((s.b+r.b)%4294967296),.int .u32 ((s.c+r.c)%4294967296),.int .u32 ((s.d+r.d)%4294967296),.int .u32 ((s.e+r.e)%4294967296),.int .u32 ((s.f+r.f)%4294967296),.int .u32 0,.int .u32 0]) hb4 rfl
    have hb6:=zg (i:=6) (v:=.int .u32 ((s.g+r.g)%4294967296)) (d:=#[.int .u32 ((s.a+r.a)%4294967296),.int .u32 ((s.b+r.b)%4294967296),.int .u32 ((s.c+r.c)%4294967296),.int .u32 ((s.d+r.d)%4294967296),.int .u32 ((s.e+r.e)%4294967296),.int .u32 ((s.f+r.f)%4294967296),.int .u32 ((s.g+r.g)%4294967296),.int .u32 0]) hb5 rfl
    have hb7:=zg (i:=7) (v:=.int .u32 ((s.h+r.h)%4294967296)) (d:=#[.int .u32 ((s.a+r.a)%4294967296),.int .u32 ((s.b+r.b)%4294967296),.int .u32 ((s.c+r.c)%4294967296),.int .u32 ((s.d+r.d)%4294967296),.int .u32 ((s.e+r.e)%4294967296),.int .u32 ((s.f+r.f)%4294967296),.int .u32 ((s.g+r.g)%4294967296),.int .u32 ((s.h+r.h)%4294967296)]) hb6 rfl
    have hbF:=hb7
    clear hb0 hb1 hb2 hb3 hb4 hb5 hb6 hb7
    have hkF:=(((((((((zb.refl [w.heap.size+1] wr).setCell (p:=⟨w.heap.size+1,0,none⟩) (.inl Wz) (.int .u32 ((s.a+r.a)%4294967296))).setCell (p:=⟨w.heap.size+1,1,none⟩) (.inl Wz) (.int .u32 ((s.b+r.b)%4294967296))).setCell (p:=⟨w.heap.size+1,2,none⟩) (.inl Wz) (.int .u32 ((s.c+r.c)%4294967296))).setCell (p:=⟨w.heap.size+1,3,none⟩) (.inl Wz) (.int .u32 ((s.d+r.d)%4294967296))).setCell (p:=⟨w.heap.size+1,4,none⟩) (.inl Wz) (.int .u32 ((s.e+r.e)%4294967296))).setCell (p:=⟨w.heap.size+1,5,none⟩) (.inl Wz) (.int .u32 ((s.f+r.f)%4294967296))).setCell (p:=⟨w.heap.size+1,6,none⟩) (.inl Wz) (.int .u32 ((s.g+r.g)%4294967296))).setCell (p:=⟨w.heap.size+1,7,none⟩) (.inl Wz) (.int .u32 ((s.h+r.h)%4294967296)))
    revert hbF hkF
    generalize hWF:((((((((wr.setCell ⟨w.heap.size+1,0,none⟩ (.int .u32 ((s.a+r.a)%4294967296))).setCell ⟨w.heap.size+1,1,none⟩ (.int .u32 ((s.b+r.b)%4294967296))).setCell ⟨w.heap.size+1,2,none⟩ (.int .u32 ((s.c+r.c)%4294967296))).setCell ⟨w.heap.size+1,3,none⟩ (.int .u32 ((s.d+r.d)%4294967296))).setCell ⟨w.heap.size+1,4,none⟩ (.int .u32 ((s.e+r.e)%4294967296))).setCell ⟨w.heap.size+1,5,none⟩ (.int .u32 ((s.f+r.f)%4294967296))).setCell ⟨w.heap.size+1,6,none⟩ (.int .u32 ((s.g+r.g)%4294967296))).setCell ⟨w.heap.size+1,7,none⟩ (.int .u32 ((s.h+r.h)%4294967296)))=WF
    intro hbF hkF
    have Gy:=qI hkF
    have x0:=za (o:=0) (v:=.int .u32 ((s.a+r.a)%4294967296)) hbF rfl
    have x1:=za (o:=1) (v:=.int .u32 ((s.b+r.b)%4294967296)) hbF rfl
    have x2:=za (o:=2) (v:=.int .u32 ((s.c+r.c)%4294967296)) hbF rfl
    have x3:=za (o:=3) (v:=.int .u32 ((s.d+r.d)%4294967296)) hbF rfl
    have x4:=za (o:=4) (v:=.int .u32 ((s.e+r.e)%4294967296)) hbF rfl
    have x5:=za (o:=5) (v:=.int .u32 ((s.f+r.f)%4294967296)) hbF rfl
    have x6:=za (o:=6) (v:=.int .u32 ((s.g+r.g)%4294967296)) hbF rfl
    have x7:=za (o:=7) (v:=.int .u32 ((s.h+r.h)%4294967296)) hbF rfl
    have hre:xY s l=⟨(s.a+r.a)%4294967296,(s.b+r.b)%4294967296,(s.c+r.c)%4294967296,(s.d+r.d)%4294967296,(s.e+r.e)%4294967296,(s.f+r.f)%4294967296,(s.g+r.g)%4294967296,(s.h+r.h)%4294967296⟩:=by
     unfold xY
     rw [← Gt.o,← HR.o]
    exact bodyPost_ret (v:=.agg #[.int .u32 ((s.a+r.a)%4294967296),.int .u32 ((s.b+r.b)%4294967296),.int .u32 ((s.c+r.c)%4294967296),.int .u32 ((s.d+r.d)%4294967296),.int .u32 ((s.e+r.e)%4294967296),.int .u32 ((s.f+r.f)%4294967296),.int .u32 ((s.g+r.g)%4294967296),.int .u32 ((s.h+r.h)%4294967296)]) (by simp [results,results153,go_sem,x0,x1,x2,x3,x4,x5,x6,x7]) rfl ⟨by rw [hre],vt ((((Gh.o.mono (Y:=[w.heap.size,w.heap.size+1]) Wz).trans' (Ge.o.mono Wz)).trans' (Gc.o.mono Wz)).trans' (Gy.o.mono Wz)) Wz⟩
  have hltI:(t:Int)<64:=Ws
  obtain⟨K,hKt⟩:∃ K,K=KS.getD t 0:=⟨_,rfl⟩
  obtain⟨W,hWt⟩:∃ W,W=WS.getD t 0:=⟨_,rfl⟩
  have HKt:=qI hKt
  have HWt:=qI hWt
  have hkt:KC[t]? = some (.int .u32 K):=by
   rw [Gn.o,hKt]
   have:=ZR KS 0 t (by rw [ks_len];exact hlt)
   simpa [wv] using this
  have hsz:KC.size=64:=by rw [Gn.o];rfl
  have hwt:wr.cell? ⟨w1.heap.size,t,none⟩=some (.int .u32 W):=by
   have h8:=ZR WS 0 t (by rw [Gu.o];exact hlt)
   have h9:=Gw.o t _ (by rw [Gv.o];exact h8)
   rw [Nat.zero_add] at h9
   rw [hWt]
   exact (Gi.o.then hkw).cell h9 Wz
  have hix:=index_words hkt hltI
  have Gp:=qI hlt
  clear hKt hWt hkw hr ht hkt hsz
  have E0:=zz hwt
  have CR:Hid (∀ (k up down:Int) (x:Int),qi k up down→∀ z:Ext wr,Calls Tryz.prog 192 #[.int .u32 x,.int .i64 k] z.w fun e w'=>e = .returned (.int .u32 (yy up down x))∧zb [] z.w w'):=qI (fun k up down x h z=>kG _ x k up down h)
  have C6:=qI (CR.o 6 67108864 64 r.e (by unfold qi;decide))
  have C11:=qI (CR.o 11 2097152 2048 r.e (by unfold qi;decide))
  have C25:=qI (CR.o 25 128 33554432 r.e (by unfold qi;decide))
  go_upto_region 8 with fail
  clear hwt
  refine yn wr Wr Wr Wd ?_
  repeat go_big_quiet_step ((go_at_call 192;first | exact Zm (C6.o _) | exact Zm (C11.o _) | exact Zm (C25.o _)))
  refine wpQuiet_nil ?_
  intro w4 hk4
  have Ge:=qI hk4
  clear E0 hk4
  obtain⟨T1,hT1⟩:∃ T1,t1W r K W=T1:=⟨_,rfl⟩
  have Gq:=qI hT1
  unfold t1W at hT1
  simp only [hT1]
  clear hT1 hix
  go_wp2_with fail
  refine (kG _ r.a 2 1073741824 4 (by unfold qi;decide)).mono ?_
  rintro e w5 ⟨rfl,hk5⟩
  have Gz:=qI (Ge.o.then hk5)
  clear hk5
  go_wp2_with fail
  refine (kG _ r.a 13 524288 8192 (by unfold qi;decide)).mono ?_
  rintro e w6 ⟨rfl,hk6⟩
  have Ja:=qI (Gz.o.then hk6)
  clear hk6
  go_wp2_with fail
  refine (kG _ r.a 22 1024 4194304 (by unfold qi;decide)).mono ?_
  rintro e w7 ⟨rfl,hk7⟩
  have Jb:=qI (Ja.o.then hk7)
  clear hk7
  go_upto_region 10 with fail
  obtain⟨T2,hT2⟩:∃ T2,t2W r=T2:=⟨_,rfl⟩
  have Jc:=qI hT2
  unfold t2W at hT2
  simp only [hT2]
  clear hT2
  go_wp2_with fail
  case roundEnd=>exact⟨⟨t+1,by go_num,by have:=Gp.o;omega,Gx.o.then Jb.o,roundS r K W,by
   rw [HKt.o,HWt.o,HR.o];rfl,by
   show _=Value.int .u32 ((t1W r K W+t2W r)%4294967296)
   rw [Gq.o,Jc.o],rfl,rfl,rfl,by
   show _=Value.int .u32 ((r.d+t1W r K W)%4294967296)
   rw [Gq.o],rfl,rfl,rfl⟩,by have:=Gp.o;simp [intOf];omega⟩
def zu:S8:=⟨1779033703,3144134277,1013904242,2773480762,1359893119,2600822924,528734635,1541459225⟩
def hashC (s:S8) (v:Value) (n:Int):Array Value:=#[.int .u32 s.a,.int .u32 s.b,.int .u32 s.c,.int .u32 s.d,.int .u32 s.e,.int .u32 s.f,.int .u32 s.g,.int .u32 s.h,v,.int .i64 n]
def yI (w:World) (p:Nat) (s:S8) (v:Value) (n:Int):Prop:=w.heap[p]? = some (.cells (hashC s v n) 203 (0,0))
theorem yI.kept {X:List Nat}{w w':World}{p:Nat}{s:S8}{v:Value}{n:Int}(h:yI w p s v n) (k:zb X w w') (hp:p ∉ X):yI w' p s v n:=k.heap h hp
theorem start_any (w:World):CL w 151 #[] (.agg #[.int .u32 zu.a,.int .u32 zu.b,.int .u32 zu.c,.int .u32 zu.d,.int .u32 zu.e,.int .u32 zu.f,.int .u32 zu.g,.int .u32 zu.h]):=by
 go_enter func151,ntmps151
 go_wp2_with fail
 exact bodyPost_ret (v:=.agg #[.int .u32 zu.a,.int .u32 zu.b,.int .u32 zu.c,.int .u32 zu.d,.int .u32 zu.e,.int .u32 zu.f,.int .u32 zu.g,.int .u32 zu.h]) (by simp [results,results151,go_sem,zu]) rfl ⟨rfl,Wd.alloc _⟩
theorem new_any (w:World):Calls Tryz.prog 116 #[] w fun e w'=>∃ p,e = .returned (.pointer (some ⟨p,0,none⟩))∧w.heap.size≤p∧yI w' p zu (.slice none 0 0) 0∧zb [] w w':=by
 have CS:=qI (start_any w)
 go_enter func116,ntmps116
 go_wp2_with fail
 refine CS.o.mono ?_
 rintro e w1 ⟨rfl,hk1⟩
 have Gd:=qI hk1
 clear hk1
 go_wp2_with fail
 go_ret
 exact⟨w1.heap.size,rfl,Gd.o.size,zd rfl,Gd.o.alloc _⟩
def putB (n sz i:Nat):UInt8:=UInt8.ofNat (n/2 ^ (8*(sz-1-i)))
def qP (n sz:Nat):List UInt8:=(List.range sz).map (putB n sz)
theorem xu (n sz:Nat):(qP n sz).length=sz:=by simp [qP]
theorem Zh (m:Nat):bv (UInt8.ofNat m) = .int .u8 ((m:Int)%256):=by
 simp [bv,UInt8.toNat_ofNat]
def JE (n sz k:Nat):List UInt8:=(List.range sz).map (fun i=>if i<k then putB n sz i else 0)
theorem putK_zero (n sz:Nat):JE n sz 0=List.replicate sz 0:=by
 apply List.ext_getElem
 ·simp [JE]
 ·intro i h1 h2;simp [JE]
theorem putK_all (n sz:Nat):JE n sz sz=qP n sz:=by
 apply List.map_congr_left
 intro i hi
 rw [if_pos (List.mem_range.1 hi)]
theorem putK_set (n sz k:Nat) (hk:k<sz):((JE n sz k).map bv).set k (.int .u8 ((n:Int)/2 ^ (8*(sz-1-k))%256))=(JE n sz (k+1)).map bv:=by
 have hb:Value.int .u8 ((n:Int)/2 ^ (8*(sz-1-k))%256)=bv (putB n sz k):=by
  rw [putB,Zh];simp
 rw [hb]
 apply List.ext_getElem
 ·simp [JE]
 ·intro i h1 h2
  rw [List.getElem_set]
  by_cases e:k=i
  ·subst e;simp [JE]
  ·rw [if_neg e]
   simp only [JE,List.getElem_map,List.getElem_range]
   congr 1
   by_cases h:i<k
   ·rw [if_pos h,if_pos Ws]
   ·rw [if_neg h,if_neg Ws]
theorem Z2 (W:World) (n:Nat) (hn:n≤lim):(Instr.makeSlice 53 (.int .i64 n) (.int .i64 n)).run Tryz.prog W = .ok (.slice (some ⟨W.heap.size,0,none⟩) n n) (W.alloc (.cells (madeCells #[.int .u8 0] n) 5)):=by
 obtain⟨i,hi,hz,hs,hb⟩:=info_parts xV.info
 have:=run_make (P:=Tryz.prog) W 53 5 i (.int .u8 0) underlying53 hi hz .i64 .i64 n n Ws Ws (by rw [hb];unfold lim at hn;omega) (by unfold lim at hn;omega)
 rw [hs] at this
 simpa [Value.cells] using this
theorem zeros_list (n:Nat):(madeCells #[.int .u8 0] n).toList=(List.replicate n (0:UInt8)).map bv:=by
 rw [toList_madeCells_one,List.map_replicate];rfl
theorem ZY (W:World) (base n:Nat) (hn:n≤lim) (hb:base≤W.heap.size):(W.alloc (.cells (madeCells #[.int .u8 0] n) 5)).ownsRow base 5 1 (.slice (some ⟨W.heap.size,0,none⟩) n n) n ((List.replicate n (0:UInt8)).map bv):=by
 rw [← zeros_list]
 exact World.ownsRow_lit W (madeCells #[.int .u8 0] n) n hb (by simp only [maxLen];unfold lim at hn;omega) (by simp [size_madeCells])
theorem YS (n sz:Nat) (w:World) (hz:1≤sz) (hz8:sz≤8) (hn:sz=8∨n<2 ^ (8*sz)):Calls Tryz.prog 80 #[.int .i64 n,.int .i64 sz] w fun e w'=>∃ a c,e = .returned (.tuple #[.slice a sz c,.int .i64 0])∧w'.ownsRow w.heap.size 5 1 (.slice a sz c) sz ((qP n sz).map bv)∧zb [] w w':=by
 have hmk:=fun W=>Z2 W sz (by unfold lim;omega)
 have hown0:=qI (ZY w w.heap.size sz (by unfold lim;omega) (Nat.le_refl _))
 have hzI:(1:Int)≤sz:=Ws
 have hz8I:(sz:Int)≤8:=Ws
 have HN:=qI hn
 obtain⟨W1,Gj⟩:∃ W1,Hid (W1=w.alloc (.cells (madeCells #[.int .u8 0] sz) 5)):=⟨_,qI rfl⟩
 have Gd:Hid (zb [] w W1):=qI (kA1 Gj.o)
 rw [← Gj.o] at hown0
 clear hn
 rcases Nat.lt_or_ge sz 8 with h8 | h8
 case' inr=>have h8I:(8:Int)≤sz:=Ws
 case' inl=>
  have h8I:(sz:Int)<8:=Ws
  have hq:((n:Int)/2 ^ (8*sz) != 0)=false:=by
   have h1:n/2 ^ (8*sz)=0:=Nat.div_eq_of_lt (HN.o.resolve_left Ws)
   have h2:((n:Int)/2 ^ (8*sz))=((n/2 ^ (8*sz):Nat):Int):=Wz
   rw [h2,h1];rfl
 all_goals
  go_enter func80,ntmps80
  go_wp2_with fail
  rw [← Gj.o]
  go_loopw [33] (fun i wr=>∃ k:Nat,i = .int .i64 k∧k≤sz∧wr.ownsRow w.heap.size 5 1 (.slice (some ⟨w.heap.size,0,none⟩) sz sz) sz ((JE n sz k).map bv)∧zb [] w wr) (fun i _=>sz-(intOf i).toNat)
  case atStart=>exact⟨0,rfl,Nat.zero_le _,by rw [putK_zero];exact hown0.o,Gd.o⟩
  case round=>
   obtain⟨k,rfl,hk,hown,hkr⟩:=hrel
   have Hown:=qI hown
   have HK:=qI hkr
   by_cases h4:k<sz
   ·have h4I:(k:Int)<sz:=by omega
    have hc:=hown.cellAt k Ws
    have hf:=hown.frozenAt k
    obtain⟨cv,hcv⟩:∃ cv,wr.cell? ⟨w.heap.size,k,none⟩=some cv:=by
     refine⟨_,hc.trans (List.getElem?_eq_getElem ?_)⟩
     simp [JE];omega
    clear hc hown hkr hmk
    go_wp2_with fail
    case roundEnd=>
     have hst:=(Hown.o.stored k (.int .u8 ((n:Int)/2 ^ (8*(sz-1-k))%256))).1
     rw [putK_set n sz k h4] at hst
     exact⟨⟨k+1,by go_num,Ws,hst,HK.o.setCell Wz _⟩,by simp [intOf];omega⟩
   ·obtain rfl:k=sz:=by omega
    clear hown hkr
    go_wp2_with fail
    go_ret2
    have h9:=Hown.o
    rw [putK_all] at h9
    exact⟨_,_,rfl,h9,HK.o⟩
theorem YI (n sz:Nat) (w:World) (hz:1≤sz) (hz8:sz≤8) (hn:sz=8∨n<2 ^ (8*sz)):Calls Tryz.prog 80 #[.int .i64 n,.int .i64 sz] w fun e w'=>∃ v,e = .returned (.tuple #[v,.int .i64 0])∧qe w w' v (qP n sz)∧zb [] w w':=
 (YS n sz w hz hz8 hn).mono fun _ _ ⟨_,_,h1,h2,h3⟩=>⟨_,h1,qx h2,h3⟩
theorem yI.lt {w:World}{p:Nat}{s:S8}{v:Value}{n:Int}(h:yI w p s v n):p<w.heap.size:=by
 unfold yI at h
 exact (Array.getElem?_eq_some_iff.1 h).1
theorem yI.c {w:World}{p:Nat}{s:S8}{v:Value}{n:Int}(h:yI w p s v n):w.cell? ⟨p,0,none⟩=some (.int .u32 s.a)∧w.cell? ⟨p,1,none⟩=some (.int .u32 s.b)∧w.cell? ⟨p,2,none⟩=some (.int .u32 s.c)∧w.cell? ⟨p,3,none⟩=some (.int .u32 s.d)∧w.cell? ⟨p,4,none⟩=some (.int .u32 s.e)∧w.cell? ⟨p,5,none⟩=some (.int .u32 s.f)∧w.cell? ⟨p,6,none⟩=some (.int .u32 s.g)∧w.cell? ⟨p,7,none⟩=some (.int .u32 s.h)∧w.cell? ⟨p,8,none⟩=some v∧w.cell? ⟨p,9,none⟩=some (.int .i64 n):=
 ⟨za h rfl,za h rfl,za h rfl,za h rfl,za h rfl,za h rfl,za h rfl,za h rfl,za h rfl,za h rfl⟩
theorem yI.kd {w:World}{p:Nat}{s:S8}{v:Value}{n:Int}(h:yI w p s v n):kind w p=203+2:=zM h
theorem fork_any (w:World) (p:Nat) (s:S8) (v:Value) (l:List UInt8) (n:Int) (h:yI w p s v n) (hb:zp w v l) (hl:l.length≤lim):Calls Tryz.prog 154 #[.pointer (some ⟨p,0,none⟩)] w fun e w'=>∃ q v',e = .returned (.pointer (some ⟨q,0,none⟩))∧w.heap.size≤q∧yI w' q s v' n∧zp w' v' l∧(∀ g,zW v'=some g→w.heap.size≤g∧kind w' g=5+2)∧zb [] w w':=by
 have HH:=qI h
 have HB:=qI hb
 have HL:=qI hl
 clear h hb hl
 go_enter func154,ntmps154
 go_wp2_with fail
 refine zv (n:=16) (fun w':World=>yI w' p s v n∧zp w' v l∧zb [] w w') 15 Wr Wr ?_
 change zX _ _ _ _ _ _ _ _ _ w.drew
 have hSS:(fun w':World=>yI w' p s v n∧zp w' v l∧zb [] w w') w.drew:=⟨HH.o.kept (zb.refl [] w).drew Wz,HB.o.kept0 (zb.refl [] w).drew,(zb.refl [] w).drew⟩
 revert hSS
 generalize w.drew=W2
 intro hSS
 refine zL ?_
 intro O R hO hR
 have hQp:jC R:=by subst hR;exact fun _ _ _ _ _ h=>h
 refine qT 0 ?_ hO rfl rfl Wr hQp (fun w hSw=>?_) hSS ?_
 rotate_left
 ·exact zi
 try simp only [zA,zN,zB,zC,zD]
 refine qT 1 ?_ hO rfl rfl Wr hQp (fun w hSw=>?_) hSS ?_
 rotate_left
 ·exact zi
 try simp only [zA,zN,zB,zC,zD]
 refine qT 2 ?_ hO rfl rfl Wr hQp (fun w hSw=>?_) hSS ?_
 rotate_left
 ·exact zi
 try simp only [zA,zN,zB,zC,zD]
 refine qT 3 ?_ hO rfl rfl Wr hQp (fun w hSw=>?_) hSS ?_
 rotate_left
 ·obtain⟨x0,x1,x2,x3,x4,x5,x6,x7,x8,x9⟩:=hSw.1.c;exact zi
 try simp only [zA,zN,zB,zC,zD]
 refine qT 4 ?_ hO rfl rfl Wr hQp (fun w hSw=>?_) hSS ?_
 rotate_left
 ·exact zi
 try simp only [zA,zN,zB,zC,zD]
 refine qT 5 ?_ hO rfl rfl Wr hQp (fun w hSw=>?_) hSS ?_
 rotate_left
 ·exact zi
 try simp only [zA,zN,zB,zC,zD]
 refine qT 6 ?_ hO rfl rfl Wr hQp (fun w hSw=>?_) hSS ?_
 rotate_left
 ·exact zi
 try simp only [zA,zN,zB,zC,zD]
 refine qT 7 ?_ hO rfl rfl Wr hQp (fun w hSw=>?_) hSS ?_
 rotate_left
 ·obtain⟨x0,x1,x2,x3,x4,x5,x6,x7,x8,x9⟩:=hSw.1.c;exact zi
 try simp only [zA,zN,zB,zC,zD]
 refine qT 9 ?_ hO rfl rfl Wr hQp (fun w hSw=>?_) hSS ?_
 rotate_left
 ·exact zi
 try simp only [zA,zN,zB,zC,zD]
 refine qT 10 ?_ hO rfl rfl Wr hQp (fun w hSw=>?_) hSS ?_
 rotate_left
 ·exact zi
 try simp only [zA,zN,zB,zC,zD]
 refine qT 11 ?_ hO rfl rfl Wr hQp (fun w hSw=>?_) hSS ?_
 rotate_left
 ·exact zi
 try simp only [zA,zN,zB,zC,zD]
 refine qT 12 ?_ hO rfl rfl Wr hQp (fun w hSw=>?_) hSS ?_
 rotate_left
 ·obtain⟨x0,x1,x2,x3,x4,x5,x6,x7,x8,x9⟩:=hSw.1.c;exact zi
 try simp only [zA,zN,zB,zC,zD]
 refine qO 8 hO rfl Wr (fun K hK=>?_)
 go_simp
 refine Calls.mono (vh v l W2 hSS.2.1 HL.o) ?_
 rintro e w3 ⟨v',rfl,hnb,hk3⟩
 obtain⟨a',c',rfl,-,-⟩:=hnb.1.form
 have hS3:(fun w':World=>yI w' p s v n∧zp w' v l∧zb [] w w') w3:=⟨hSS.1.kept hk3 Wz,hSS.2.1.kept0 hk3,hSS.2.2.then hk3⟩
 have Gg:=qI hnb
 have Jd:Hid (w.heap.size≤W2.heap.size):=qI hSS.2.2.size
 clear hnb
 refine hK _ _ (.inr hS3) ?_
 clear hK K
 try simp only [zA,zN,zB,zC,zD]
 clear hSS
 have hSS:=hS3
 clear hS3
 refine qT 13 ?_ hO rfl rfl Wr hQp (fun w hSw=>?_) hSS ?_
 rotate_left
 ·exact zi
 try simp only [zA,zN,zB,zC,zD]
 refine qO 14 hO rfl Wr (fun K hK=>?_)
 go_simp
 refine hK _ _ (.inr ⟨hSS.1.kept ((zb.refl [] _).alloc _) Wz,hSS.2.1.kept0 ((zb.refl [] _).alloc _),hSS.2.2.alloc _⟩) ?_
 clear hK K
 try simp only [zA,zN,zB,zC,zD]
 refine qO 15 hO rfl Wr (fun K hK=>?_)
 go_simp
 refine hK _ _ (.inl rfl) ?_
 clear hK K
 try simp only [zA,zN,zB,zC,zD]
 refine zF hO Wr ?_ _
 subst hR
 try clear hQp hO O
 go_wp2_with fail
 go_ret
 exact⟨w3.heap.size,rfl,hSS.2.2.size,_,zd rfl,Gg.o.1.kept0 ((zb.refl [] w3).alloc _),fun g hg=>⟨Nat.le_trans Jd.o (Gg.o.2 g hg).1,(((zb.refl [] w3).alloc _).kind (Gg.o.1.lt hg) Wz).trans (Gg.o.2 g hg).2⟩,hSS.2.2.alloc _⟩
end Go.Proofs.YtibnfbglanpoiaaGreatDoor

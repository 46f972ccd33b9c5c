/- Parts of one proof, merged: XJB XJC. -/
import Derived.Test.YtjccecajigmfkaaGreatDoorSgD
import Derived.Test.YtjccecajigmfkaaGreatDoorSgE
import Derived.Deep.MidRow
set_option linter.all false
set_option maxHeartbeats 12800000
set_option maxRecDepth 100000
namespace Go.Proofs.YtjccecajigmfkaaGreatDoor
open Go.Proofs.Tryz
open Go.RowKit
variable {X:List Nat}{b:Nat}{l:List Int}{m t:Nat}{w w':World}{x:Int}
theorem tyByteJ:xG prog 32 5 1 1 (.int .u8 0):=⟨underlying32,Wr,rfl,Wo⟩
theorem ZH (h:zb X w w')(b:∀ k,k∈X→w.heap.size≤k):zb [] w w':=
 ⟨h.os,h.tape,h.output,h.size,fun k d _=>h.block k d (fun a=>by have:=b k a;omega)⟩
def wv (x:Int):Value:=.int .u32 x
def yt (l:List Int)(m:Nat):List Value:=l.map wv++List.replicate m (wv 0)
def accW (b:List UInt8):Int:=b.foldl (fun w c=>bits .or .u32 (w*256%4294967296) (c.toNat:Int)) 0
def s0W (x:Int):Int:=bits .xor .u32 (bits .xor .u32 (Kl 33554432 128 x) (Kl 16384 262144 x)) (x/8)
def s1W (x:Int):Int:=bits .xor .u32 (bits .xor .u32 (Kl 32768 131072 x) (Kl 8192 524288 x)) (x/1024)
def nextW (l:List Int):Int:=(l.getD (l.length-16) 0+s0W (l.getD (l.length-15) 0)+l.getD (l.length-7) 0+s1W (l.getD (l.length-2) 0))%4294967296
def qq (b:List UInt8):Nat→List Int
 | 0=>[]
 | t+1=>qq b t++[if t<16 then accW ((b.drop (4*t)).take 4) else nextW (qq b t)]
theorem xD (b:List UInt8):∀ t,(qq b t).length=t
 | 0=>rfl
 | t+1=>by show (qq b t++[_]).length=_;rw [List.length_append,xD b t];rfl
theorem words_len (l:List Int)(m:Nat):(yt l m).length=l.length+m:=by simp [yt]
theorem zbl (l:List Int)(m:Nat):yt (l++[0]) m=yt l (m+1):=by
 unfold yt;rw [List.map_append,List.append_assoc];rfl
theorem JR (l:List Int)(m j:Nat)(h:j<l.length):(yt l m)[j]? = some (wv (l.getD j 0)):=by
 unfold yt;rw [List.getElem?_append_left (by simpa using h),List.getElem?_map,List.getElem?_eq_getElem h];simp [h]
theorem words_set (l:List Int)(m:Nat)(x y:Int):(yt (l++[x]) m).set l.length (wv y)=yt (l++[y]) m:=by
 unfold yt;rw [List.map_append,List.map_append,List.append_assoc,List.append_assoc];rw [List.set_append_right _ _ Wz];simp [wv]
theorem KP (l:List Int)(m:Nat)(x y:Int):(yt (l++[x]) m).toArray.setIfInBounds l.length (wv y)=(yt (l++[y]) m).toArray:=by
 rw [List.setIfInBounds_toArray,words_set]
theorem words_nil (j m:Nat)(h:j<m):(yt [] m)[j]? = some (wv 0):=by
 unfold yt;simp only [List.map_nil,List.nil_append];rw [List.getElem?_replicate,if_pos h]
theorem words_one (l:List Int)(m:Nat):∀ v,v∈yt l m→v.oneCell'=true:=by
 intro v hv;unfold yt at hv;rcases List.mem_append.1 hv with h | h;·obtain⟨x,-,rfl⟩:=List.mem_map.1 h;rfl
 ·obtain⟨-,rfl⟩:=List.mem_replicate.1 h;rfl
def xL (w:World)(b:Nat)(l:List Int)(m:Nat):Prop:=w.heap[b]? = some (.cells (yt l m).toArray 263 (0,0))
theorem xL.cell {w:World}{b:Nat}{l:List Int}{m j:Nat}(h:xL w b l m)(a:j<l.length):w.cell? ⟨b,j,none⟩=some (.int .u32 (l.getD j 0)):=
 za h (by have:=JR l m j a;simpa [wv] using this)
theorem xL.free {j:Nat}(h:xL w b l m):w.frozen? ⟨b,j,none⟩=false:=zh h
theorem xL.kept (h:xL w b l m)(k:zb X w w')(a:b ∉ X):xL w' b l m:=k.heap h a
theorem xL.store (h:xL w b (l++[x]) m)(y:Int):xL (w.setCell ⟨b,l.length,none⟩ (.int .u32 y)) b (l++[y]) m:=
 zd h (KP l m x y)
theorem sched_any (w:World)(a:Option Addr)(c:Nat)(l:List UInt8)(hl:l.length=64)(hb:zp w (.slice a 64 c) l) : zJ w 234 #[.slice a 64 c] (.agg (yt (qq l 64) 0).toArray):=by
 obtain⟨W0,Ge⟩:=XE ((w.alloc (.cells (yt [] 64).toArray 263)).alloc (.cells (yt [] 64).toArray 263));have Gh:Hid (zb [] w W0):=qI (kA2 Ge.o);have Gm:Hid (xL W0 w.heap.size [] 64):=qI (by rw [Ge.o];exact ((zb.refl [] _).alloc _).heap (ze rfl) Wz);have Gz:Hid (xL W0 (w.heap.size+1) [] 64):=qI (by rw [Ge.o];exact ze Wz);have HB:=qI hb;have Gu:=qI hl;clear hb hl;go_enter func234,ntmps234;go_upto_region 2 with fail;refine xg Ge.o ?_;go_wp2_with fail;go_loopw [4,6,7,8,9,10,11] (fun _ _ _ _ _ _ i wr=>∃ t:Nat,i = .int .i64 t∧t≤64∧zb [w.heap.size+1] W0 wr∧xL wr (w.heap.size+1) (qq l t) (64-t)) (fun _ _ _ _ _ _ i _=>64-(intOf i).toNat);case atStart=>exact⟨0,rfl,Wo,Wd,Gz.o⟩
 case round=>
  obtain⟨t,rfl,ht,H,r⟩:=hrel;have Gi:=qI H;have Ja:=qI r;by_cases G:t<64;rotate_left
  ·obtain rfl:t=64:=by omega
   clear G ht H;obtain⟨E,I⟩:=XF (yt (qq l 64) 0);have u:E.length=64:=by rw [I,words_len,xD]
   have al:wr.rangeAt (w.heap.size+1) 0 E:=fun j v hv=>by rw [Nat.zero_add];exact za (r:_=some (Obj.cells (yt (qq l 64) 0).toArray _ _)) (by rw [← I];simpa using hv)
   have L:xL wr w.heap.size [] 64:=Gm.o.kept Gi.o Wz;have ad:wr.there w.heap.size 0 E.toArray.size:=fun j hj=>by
    rw [Nat.zero_add];have aq:j<64:=by simpa [u] using hj
    have m:=words_nil j 64 aq;exact⟨by rw [za (L:_=some (Obj.cells (yt [] 64).toArray _ _)) (by simpa using m)];rfl,zh L⟩
   have X:E.toArray.all (·.oneCell')=true:=Array.all_eq_true_iff_forall_mem.2 (fun v hv=>by rw [I] at hv;exact words_one _ _ v (by simpa using hv));have Jb:=qI I;have Jv:=qI L;have Jc:=qI u;have hi:((prog).info? 263).map (·.size)=some E.length:=by rw [u];kernel_rfl
   have af:((prog).info? 263).map (·.size)=some E.toArray.size:=by rw [List.size_toArray,u];kernel_rfl
   go_upto_region 16 with fail;refine wp_region_list ?_;change wpList _ _ _ [_,_] _ _;refine wpList_load_mid Wk 263 (.tmp 3) Wk (w.heap.size+1) 0 Wk E _ al underlying263 rfl hi ?_;refine wpList_store_mid Wk 263 (.tmp 2) (.tmp 78) Wk w.heap.size 0 E.toArray Wk Wk ad af X ?_;have y:(wr.setCells w.heap.size 0 E.toArray.toList).rangeAt w.heap.size 0 E:=World.rangeAt_setCells_same _ _ _ _ (by simpa using ad);have M:=yN w.heap.size E.toArray.toList 0 wr;revert y M;generalize wr.setCells w.heap.size 0 E.toArray.toList=WF;intro y M;have aj:=run_loadVar_mid (P:=prog) WF w.heap.size 0 263 E _ y underlying263 rfl hi;have au:zb [] w WF:=ZH (((Gh.o.mono (Y:=[w.heap.size,w.heap.size+1]) Wz).trans' (Gi.o.mono Wz)).trans' (M.mono Wz)) Wz;clear I u al L ad X r hi af y M;try simp only [XI]
   go_wp2;exact bodyPost_ret (v:=.agg E.toArray) (by simp [results,results234,aj,Sem.run_bind,asAddr]) rfl ⟨by rw [Jb.o],au⟩
  have am:(t:Int)<64:=Ws;have Jd:Hid (zb [] w wr):=qI (ZH ((Gh.o.mono (Y:=[w.heap.size+1]) Wz).trans' H) Wz);by_cases ab:t<16
  ·have ai:(t:Int)<16:=by omega
   obtain⟨a2,c2,hs,N,ag⟩:=(show zp wr (.slice a 64 c) l from HB.o.k0 Jd.o).mid tyByteJ (4*t) (4*t+4) Ws (by rw [Gu.o];omega);have a8:∀ W,(Instr.slice 32 (.slice a 64 c) (some (.int .i64 (4*(t:Int)))) (some (.int .i64 (4*(t:Int)+4))) none).run prog W = .ok (.slice a2 4 c2) W:=fun W=>by have m:=hs W;rw [show 4*t+4-4*t=4 by omega] at m;push_cast at m;exact m
   rw [show 4*t+4-4*t=4 by omega] at N;obtain⟨blk,z⟩:=XF ((l.drop (4*t)).take 4);rw [← z] at N;have ah:blk.length=4:=by rw [z,List.length_take,List.length_drop,Gu.o];omega
   obtain⟨g2,o2,rfl,U⟩:∃ g2 o2,a2=some ⟨g2,o2,none⟩∧Row wr g2 o2 (blk.map bv):=by
    rcases N.2 with ⟨-,h0⟩ | ⟨h0,-⟩ | ⟨g,o,cap,e,-,-,hr⟩;·omega
    ·omega
    ·simp only [Value.slice.injEq] at e;exact⟨g,o,e.1,hr⟩
   have Gn:=qI U;have Ga:=qI ah;have Gp:=qI z;have Gq:=qI ab;have Gf:=qI G;have Je:Hid (g2≠w.heap.size+1):=qI (by
    have m:=Slc.lt HB.o (ag g2 (by rw [show 4*t+4-4*t=4 by omega];rfl));omega)
   clear hs N ag z ah U H r ab G;go_wp2_with fail;obtain⟨WR,rfl⟩:=XF wr;go_loopw [6,24] (fun _ j wq=>∃ k:Nat,j = .int .i64 k∧k≤4∧zb [w.heap.size+1] WR wq∧xL wq (w.heap.size+1) (qq l t++[accW (blk.take k)]) (63-t)) (fun _ j _=>4-(intOf j).toNat);case atStart=>exact⟨0,rfl,Wo,Wd,by
    have m:=Ja.o;unfold xL at m ⊢;rw [show 64-t=(63-t)+1 by have:=Gf.o;omega,← zbl] at m;exact m⟩
   case round=>
    obtain⟨k,rfl,hk,x,F⟩:=hrel;have Gg:=qI x;have Gv:=qI F;by_cases p:k<4;rotate_left
    ·obtain rfl:k=4:=by omega
     clear hk x F p;go_wp2;case roundEnd=>exact⟨⟨t+1,by go_num,by have:=Gf.o;omega,Gi.o.trans' Gg.o,by
      have m:=Gv.o;rw [List.take_of_length_le (by rw [Ga.o];exact XA),Gp.o] at m;show xL _ _ (qq l t++[if t<16 then _ else _]) _;rw [if_pos Gq.o,show 64-(t+1)=63-t by omega];exact m⟩,by have:=Gf.o;simp [intOf];omega⟩
    have ax:(k:Int)<4:=Ws;have hq:=Gn.o.cells k (bv (blk[k]'(by rw [Ga.o];exact p))) (by rw [List.getElem?_map,List.getElem?_eq_getElem (by rw [Ga.o];exact p)];rfl);obtain⟨Q,aa⟩:=XF (blk[k]'(by rw [Ga.o];exact p));rw [← aa] at hq;have q0:wr.cell? ⟨g2,o2+k,none⟩=some (.int .u8 (Q.toNat:Int)):=x.cell hq (by simpa using Je.o);obtain⟨A,hA⟩:=XF (accW (blk.take k));have ap:w.heap.size+1=w.heap.size+1:=rfl;have q1:wr.cell? ⟨w.heap.size+1,t,none⟩=some (.int .u32 A):=by have m:=F.cell (j:=t) (by rw [List.length_append,xD];simp);rw [m,hA];simp [List.getD_eq_getElem?_getD,xD]
    have z1:wr.frozen? ⟨w.heap.size+1,t,none⟩=false:=F.free;have a7:(0:Int)≤Q.toNat:=Ws;have az:(Q.toNat:Int)<256:=XC Q.toNat_lt;have a9:(Q.toNat:Int)%4294967296=Q.toNat:=XC Q.toNat_lt;have Gr:Hid (accW (blk.take (k+1))=bits .or .u32 (A*256%4294967296) (Q.toNat:Int)):=qI (by
     rw [List.take_succ_eq_append_getElem (by rw [Ga.o];exact p),hA,aa];unfold accW;rw [List.foldl_append];rfl)
    have Gc:=qI p;clear hk x F p hq ap hA aa;go_wp2;case roundEnd=>exact⟨⟨k+1,by go_num,by have:=Gc.o;omega,Gg.o.trans' ((zb.refl [w.heap.size+1] wr).setCell (.inl Wz) _),by
     have m:=Gv.o.store (bits .or .u32 (A*256%4294967296) (Q.toNat:Int));rw [xD] at m;rw [Gr.o];exact m⟩,by have:=Gc.o;simp [intOf];omega⟩
  obtain⟨q,rfl⟩:∃ q,t=q+16:=⟨t - 16,Ws⟩;have Gf:=qI G;obtain⟨A,hA⟩:=XF ((qq l (q+16)).getD (q+1) 0);obtain⟨B,hB⟩:=XF ((qq l (q+16)).getD (q+14) 0);obtain⟨C,hC⟩:=XF ((qq l (q+16)).getD q 0);obtain⟨D,hD⟩:=XF ((qq l (q+16)).getD (q+9) 0);have Jf:Hid (qq l (q+16+1)=qq l (q+16)++[(C+s0W A+D+s1W B)%4294967296]):=qI (by
   show qq l (q+16)++[if q+16<16 then _ else _]=_;rw [if_neg Ws];unfold nextW;rw [xD,hA,hB,hC,hD,show q+16-16=q by omega,show q+16-15=q+1 by omega,show q+16-7=q+9 by omega,show q+16-2=q+14 by omega])
  have cA:wr.cell? ⟨w.heap.size+1,q+1,none⟩=some (.int .u32 A):=by rw [hA];exact r.cell (by rw [xD];omega)
  have cB:wr.cell? ⟨w.heap.size+1,q+14,none⟩=some (.int .u32 B):=by rw [hB];exact r.cell (by rw [xD];omega)
  have Jg:Hid (wr.cell? ⟨w.heap.size+1,q,none⟩=some (.int .u32 C)):=qI (by rw [hC];exact r.cell (by rw [xD];omega));have Jh:Hid (wr.cell? ⟨w.heap.size+1,q+9,none⟩=some (.int .u32 D)):=qI (by rw [hD];exact r.cell (by rw [xD];omega));have Ji:Hid (xL wr (w.heap.size+1) (qq l (q+16)++[0]) (63-(q+16))):=qI (by
   have m:=r;unfold xL at m ⊢;rw [show 64-(q+16)=(63-(q+16))+1 by omega,← zbl] at m;exact m)
  have a0:(q:Int)+16<64:=Ws;have a4:(0:Int)≤q:=Ws;have av:(q:Int)<64:=Ws;have a6:IntKind.i64.wrap (q:Int)=q:=by rw [IntKind.wrap_i64];omega
  have a3:IntKind.i64.wrap ((q:Int)+16-7)=q+9:=by rw [IntKind.wrap_i64];omega
  have a5:(0:Int)≤q+9:=Ws;have ay:(q:Int)+9<64:=Ws;have a1:((q:Int)+9).toNat=q+9:=Ws;have aw:(0:Int)≤q+16:=Ws;have ar:((q:Int)+16).toNat=q+16:=Ws;have ai:¬ (q:Int)+16<16:=Ws;clear hA hB hC hD r H ht G ab am;go_wp2_with fail;have EA:=zv cA;have EB:=zv cB;clear cA cB;refine yg wr Wr Wr Wd ?_;repeat go_big_quiet_step (fail)
  refine wpQuiet_nil ?_;intro w2 x;have Gg:=qI x;clear EA EB x;go_wp2_with fail;refine (jc _ A 7 33554432 128 (by unfold vZ;decide)).mono ?_;rintro e w3 ⟨rfl,an⟩;have Gk:=qI (Gg.o.then an);clear an;go_wp2_with fail;refine (jc _ A 18 16384 262144 (by unfold vZ;decide)).mono ?_;rintro e w4 ⟨rfl,p⟩;have Gc:=qI (Gk.o.then p);clear p;go_wp2_with fail;refine (jc _ B 17 32768 131072 (by unfold vZ;decide)).mono ?_;rintro e w5 ⟨rfl,ae⟩;have Gs:=qI (Gc.o.then ae);clear ae;go_wp2_with fail;refine (jc _ B 19 8192 524288 (by unfold vZ;decide)).mono ?_;rintro e J ⟨rfl,ak⟩;have Gj:=qI (Gs.o.then ak);clear ak;go_upto_region 14 with fail;have ao:=Gj.o.cell Jg.o Wz;have c7:=Gj.o.cell Jh.o Wz;have Jj:=qI (Ji.o.kept Gj.o Wz);refine zt (n:=16) (fun w':World=>zb [] J w') 15 Wr Wr ?_;change zS _ _ _ _ _ _ _ _ _ J.drew;have b:(fun w':World=>zb [] J w') J.drew:=(zb.refl _ J).drew;have Gl:Hid (zb [] J J.drew):=qI (zb.refl _ J).drew;revert b Gl;generalize J.drew=WD;intro b Gl;refine zF ?_;intro O R s hR;have f:kI R:=by subst hR;exact fun _ _ _ _ _ h=>h
  refine qT 0 ?_ s rfl rfl Wr f (fun w d=>?_) b ?_;rotate_left;·exact zg
  try simp only [XI]
  refine qT 1 ?_ s rfl rfl Wr f (fun w d=>?_) b ?_;rotate_left;·exact zg
  try simp only [XI]
  refine qT 2 ?_ s rfl rfl Wr f (fun w d=>?_) b ?_;rotate_left;·exact zg
  try simp only [XI]
  refine qT 3 ?_ s rfl rfl Wr f (fun w d=>?_) b ?_;rotate_left;·exact zg
  try simp only [XI]
  refine qT 4 ?_ s rfl rfl Wr f (fun w d=>?_) b ?_;rotate_left;·have s0:=d.cell ao Wz;exact zg
  try simp only [XI]
  refine qT 5 ?_ s rfl rfl Wr f (fun w d=>?_) b ?_;rotate_left;·exact zg
  try simp only [XI]
  refine qT 6 ?_ s rfl rfl Wr f (fun w d=>?_) b ?_;rotate_left;·exact zg
  try simp only [XI]
  refine qT 7 ?_ s rfl rfl Wr f (fun w d=>?_) b ?_;rotate_left;·exact zg
  try simp only [XI]
  refine qT 8 ?_ s rfl rfl Wr f (fun w d=>?_) b ?_;rotate_left;·exact zg
  try simp only [XI]
  refine qT 9 ?_ s rfl rfl Wr f (fun w d=>?_) b ?_;rotate_left;·exact zg
  try simp only [XI]
  refine qT 10 ?_ s rfl rfl Wr f (fun w d=>?_) b ?_;rotate_left;·have s0:=d.cell c7 Wz;exact zg
  try simp only [XI]
  refine qT 11 ?_ s rfl rfl Wr f (fun w d=>?_) b ?_;rotate_left;·exact zg
  try simp only [XI]
  refine qT 12 ?_ s rfl rfl Wr f (fun w d=>?_) b ?_;rotate_left;·exact zg
  try simp only [XI]
  refine qT 13 ?_ s rfl rfl Wr f (fun w d=>?_) b ?_;rotate_left;·exact zg
  try simp only [XI]
  refine qT 14 ?_ s rfl rfl Wr f (fun w d=>?_) b ?_;rotate_left;·exact zg
  try simp only [XI]
  have zc:=Jj.o.kept Gl.o Wz;have zs:WD.cell? ⟨w.heap.size+1,q+16,none⟩=some (.int .u32 0):=by have m:=zc.cell (j:=q+16) (by rw [List.length_append,xD];simp);rw [m];simp [List.getD_eq_getElem?_getD,xD]
  have zf:WD.frozen? ⟨w.heap.size+1,q+16,none⟩=false:=zc.free;have Jk:=qI zc;refine qO 15 s rfl Wr (fun K hK=>?_);go_simp;refine hK _ _ (.inl rfl) ?_;clear hK K;try simp only [XI]
  refine zz s Wr ?_ _;subst hR;try clear f s O
  clear zs zf zc b ao c7;have Z:=Jk.o.store ((C+s0W A+D+s1W B)%4294967296);rw [xD] at Z;have Jl:=qI Z;clear Z;simp only [IntKind.wrap_u32'];go_wp2;case roundEnd=>exact⟨⟨q+16+1,by go_num,by have:=Gf.o;omega,(Gi.o.trans' ((Gj.o.then Gl.o).mono (Y:=[w.heap.size+1]) Wz)).trans' ((zb.refl [w.heap.size+1] WD).setCell (.inl Wz) _),by
   rw [Jf.o,show 64-(q+16+1)=63-(q+16) by omega];exact Jl.o⟩,by have:=Gf.o;simp [intOf];omega⟩
def KS:List Int:=[1116352408,1899447441,3049323471,3921009573,961987163,1508970993,2453635748,2870763221,3624381080,310598401,607225278,1426881987,1925078388,2162078206,2614888103,3248222580,3835390401,4022224774,264347078,604807628,770255983,1249150122,1555081692,1996064986,2554220882,2821834349,2952996808,3210313671,3336571891,3584528711,113926993,338241895,666307205,773529912,1294757372,1396182291,1695183700,1986661051,2177026350,2456956037,2730485921,2820302411,3259730800,3345764771,3516065817,3600352804,4094571909,275423344,430227734,506948616,659060556,883997877,958139571,1322822218,1537002063,1747873779,1955562222,2024104815,2227730452,2361852424,2428436474,2756734187,3204031479,3329325298]
theorem ks_len:KS.length=64:=rfl
def qK (w:World):Prop:=w.rangeAt 0 0 (yt KS 0)
theorem qK.k0 (h:qK w)(k:zb [] w w'):qK w':=fun j v hv=>k.cell (h j v hv) Wz
structure S8 where
 a:Int
 b:Int
 c:Int
 d:Int
 e:Int
 f:Int
 g:Int
 h:Int
def t1W (s:S8)(K W:Int):Int:=((s.h+bits .xor .u32 (bits .xor .u32 (Kl 67108864 64 s.e) (Kl 2097152 2048 s.e)) (Kl 128 33554432 s.e)+bits .xor .u32 (bits .and .u32 s.e s.f) (bits .and .u32 (bits .xor .u32 (if IntKind.u32.signed=true then -1 else IntKind.u32.max) s.e) s.g)+K)%4294967296+W)%4294967296
def t2W (s:S8):Int:=(bits .xor .u32 (bits .xor .u32 (Kl 1073741824 4 s.a) (Kl 524288 8192 s.a)) (Kl 1024 4194304 s.a)+bits .xor .u32 (bits .xor .u32 (bits .and .u32 s.a s.b) (bits .and .u32 s.a s.c)) (bits .and .u32 s.b s.c))%4294967296
def roundS (s:S8)(K W:Int):S8:=⟨(t1W s K W+t2W s)%4294967296,s.a,s.b,s.c,(s.d+t1W s K W)%4294967296,s.e,s.f,s.g⟩
def runS (ws:List Int)(s:S8):Nat→S8
 | 0=>s
 | t+1=>roundS (runS ws s t) (KS.getD t 0) (ws.getD t 0)
def S8.list (s:S8):List Int:=[s.a,s.b,s.c,s.d,s.e,s.f,s.g,s.h]
def jt (s:S8)(l:List UInt8):S8:=
 let r:=runS (qq l 64) s 64
 ⟨(s.a+r.a)%4294967296,(s.b+r.b)%4294967296,(s.c+r.c)%4294967296,(s.d+r.d)%4294967296,(s.e+r.e)%4294967296,(s.f+r.f)%4294967296,(s.g+r.g)%4294967296,(s.h+r.h)%4294967296⟩
def mixA (s r:S8)(j:Nat):Array Value:=#[.int .u32 (if 0<j then (s.a+r.a)%4294967296 else s.a),.int .u32 (if 1<j then (s.b+r.b)%4294967296 else s.b),.int .u32 (if 2<j then (s.c+r.c)%4294967296 else s.c),.int .u32 (if 3<j then (s.d+r.d)%4294967296 else s.d),.int .u32 (if 4<j then (s.e+r.e)%4294967296 else s.e),.int .u32 (if 5<j then (s.f+r.f)%4294967296 else s.f),.int .u32 (if 6<j then (s.g+r.g)%4294967296 else s.g),.int .u32 (if 7<j then (s.h+r.h)%4294967296 else s.h)]
theorem index_words {cs:Array Value}(h:cs[t]? = some (.int .u32 x))(e:(t:Int)<64)(W:World):(Instr.index 263 (.agg cs) (.int .i64 t)).run prog W = .ok (.int .u32 x) W:=by
 have b:=sizeOf220 W;have a:=isAgg220 W;unfold Instr.index;simp [asIntOf,run_underlying underlying263,b,part,a,h,Sem.run_bind];intro d;omega
theorem qw {cs:Array Value}(h:cs[t]? = some (.int .u32 x))(e:(t:Int)<8)(W:World):(Instr.index 221 (.agg cs) (.int .i64 t)).run prog W = .ok (.int .u32 x) W:=by
 have b:=sizeOf220 W;have a:=isAgg220 W;unfold Instr.index;simp [asIntOf,run_underlying underlying221,b,part,a,h,Sem.run_bind];intro d;omega
theorem zeros_there (w:World):(w.alloc (.cells (yt [] 64).toArray 263)).there w.heap.size 0 64:=fun j b=>by
 rw [Nat.zero_add];have a:=heap_alloc_new w (.cells (yt [] 64).toArray 263);exact⟨by rw [za a (by simpa using words_nil j 64 b)];rfl,zh a⟩
theorem block_any (w:World)(s:S8)(a:Option Addr)(c:Nat)(l:List UInt8)(hl:l.length=64)(hb:zp w (.slice a 64 c) l)(hk:qK w) : Calls prog 188 #[.agg #[.int .u32 s.a,.int .u32 s.b,.int .u32 s.c,.int .u32 s.d,.int .u32 s.e,.int .u32 s.f,.int .u32 s.g,.int .u32 s.h],.slice a 64 c] w fun e w'=> e = .returned (.agg #[.int .u32 (jt s l).a,.int .u32 (jt s l).b,.int .u32 (jt s l).c,.int .u32 (jt s l).d,.int .u32 (jt s l).e,.int .u32 (jt s l).f,.int .u32 (jt s l).g,.int .u32 (jt s l).h])∧zb [] w w':=by
 obtain⟨W0,Ge⟩:=XE ((w.alloc (.cells #[.int .u32 s.a,.int .u32 s.b,.int .u32 s.c,.int .u32 s.d,.int .u32 s.e,.int .u32 s.f,.int .u32 s.g,.int .u32 s.h] 221)).alloc (.cells #[.int .u32 0,.int .u32 0,.int .u32 0,.int .u32 0,.int .u32 0,.int .u32 0,.int .u32 0,.int .u32 0] 221));have Gh:Hid (zb [] w W0):=qI (kA2 Ge.o);have Gw:Hid (W0.heap[w.heap.size]? = some (.cells #[.int .u32 s.a,.int .u32 s.b,.int .u32 s.c,.int .u32 s.d,.int .u32 s.e,.int .u32 s.f,.int .u32 s.g,.int .u32 s.h] 221 (0,0))):=qI (by rw [Ge.o];exact ((zb.refl [] _).alloc _).heap (ze rfl) Wz);have Gm:Hid (W0.heap[w.heap.size+1]? = some (.cells #[.int .u32 0,.int .u32 0,.int .u32 0,.int .u32 0,.int .u32 0,.int .u32 0,.int .u32 0,.int .u32 0] 221 (0,0))):=qI (by rw [Ge.o];exact ze Wz);have CS:=qI (sched_any W0 a c l hl (hb.k0 Gh.o));have Jm:=qI hk;clear hl hb hk;go_enter func188,ntmps188;go_upto_region 1 with fail;rw [← Ge.o];go_wp2_with fail;refine CS.o.mono ?_;rintro e y ⟨rfl,ai⟩;have Jn:=qI ai;clear ai CS;obtain⟨WS,M⟩:=XF (qq l 64);have Jo:=qI M;rw [← M];have Z:WS.length=64:=by rw [M,xD]
 have Jp:=qI Z;obtain⟨E,C⟩:=XF (yt WS 0);rw [← C];have O:E.length=64:=by rw [C,words_len,Z]
 have af:((prog).info? 263).map (·.size)=some E.toArray.size:=by rw [List.size_toArray,O];kernel_rfl
 have X:(y.alloc (.cells (yt [] 64).toArray 263)).there y.heap.size 0 E.toArray.size:=by have h:=zeros_there y;rwa [show E.toArray.size=64 by simpa using O]
 have P:E.toArray.all (·.oneCell')=true:=Array.all_eq_true_iff_forall_mem.2 (fun v hv=>by rw [C] at hv;exact words_one _ _ v (by simpa using hv));have Jq:=qI C;clear M Z C;go_wp2_with (refine wpList_store_mid Wk 263 (.tmp 5) (.tmp 25) Wk y.heap.size 0 E.toArray Wk Wk X af P ?_);try simp only [XI]
 have J:((y.alloc (.cells (yt [] 64).toArray 263)).setCells y.heap.size 0 E.toArray.toList).rangeAt y.heap.size 0 E:=World.rangeAt_setCells_same _ _ _ _ (by simpa using X);have L:zb [] y ((y.alloc (.cells (yt [] 64).toArray 263)).setCells y.heap.size 0 E.toArray.toList):=ZH (((zb.refl [y.heap.size] y).alloc _).trans' (yN _ _ _ _)) Wz;change Code.wp _ _ _ _ ((y.alloc (.cells (yt [] 64).toArray 263)).setCells y.heap.size 0 E.toArray.toList);revert J L;generalize (y.alloc (.cells (yt [] 64).toArray 263)).setCells y.heap.size 0 E.toArray.toList=W2;intro J L;have Jr:=qI J;have Gg:=qI (Jn.o.then L);have n:=Gg.o.heap Gw.o Wz;have E0:=zv (za (o:=0) (v:=.int .u32 s.a) n rfl);have E1:=zv (za (o:=1) (v:=.int .u32 s.b) n rfl);have E2:=zv (za (o:=2) (v:=.int .u32 s.c) n rfl);have E3:=zv (za (o:=3) (v:=.int .u32 s.d) n rfl);have E4:=zv (za (o:=4) (v:=.int .u32 s.e) n rfl);have E5:=zv (za (o:=5) (v:=.int .u32 s.f) n rfl);have E6:=zv (za (o:=6) (v:=.int .u32 s.g) n rfl);have E7:=zv (za (o:=7) (v:=.int .u32 s.h) n rfl);clear J L n af X P;refine yg W2 Wr Wr Wd ?_;repeat go_big_quiet_step (fail)
 refine wpQuiet_nil ?_;intro w3 aa;have Gk:=qI (Gg.o.then aa);have Gt:=qI aa;clear E0 E1 E2 E3 E4 E5 E6 E7 aa;have aj:w3.rangeAt 0 0 (yt KS 0):=Jm.o.k0 (Gh.o.then Gk.o);have ap:((prog).info? 263).map (·.size)=some (yt KS 0).length:=Wr;go_upto_region 5 with fail;refine wp_region_list ?_;change wpList _ _ _ [_,_] _ _;refine wpList_load_mid Wk 263 (.global 0) Wk 0 0 Wk (yt KS 0) _ aj underlying263 rfl ap ?_;obtain⟨KC,R⟩:=XF ((yt KS 0).toArray);rw [← R];have Gx:=qI R;clear aj ap R;try simp only [XI]
 go_wp2_with fail;go_loopw [6,7,8,9,10,11,12,13,14,15,16,17,43] (fun a b c d e f g h _ _ _ _ i wr=>∃ t:Nat,i = .int .i64 t∧t≤64∧zb [] w3 wr∧∃ r:S8,r=runS WS s t∧a = .int .u32 r.a∧b = .int .u32 r.b∧c = .int .u32 r.c∧d = .int .u32 r.d∧e = .int .u32 r.e∧f = .int .u32 r.f∧g = .int .u32 r.g∧h = .int .u32 r.h) (fun _ _ _ _ _ _ _ _ _ _ _ _ i _=>64-(intOf i).toNat);case atStart=>exact⟨0,rfl,Wo,Wd,s,rfl,rfl,rfl,rfl,rfl,rfl,rfl,rfl,rfl⟩
 case round=>
  obtain⟨t,rfl,ht,D,r,hr,rfl,rfl,rfl,rfl,rfl,rfl,rfl,rfl⟩:=hrel;have HR:=qI hr;have Gi:=qI D;by_cases I:t<64;rotate_left
  ·obtain rfl:t=64:=by omega
   have Gc:=qI (Gk.o.then D);clear I ht D hr;go_wp2_with fail;obtain⟨WR,rfl⟩:=XF wr;go_loopw [18,19,114] (fun _ _ i wq=>∃ j:Nat,i = .int .i64 j∧j≤8∧zb [w.heap.size] WR wq∧wq.heap[w.heap.size]? = some (.cells (mixA s r j) 221 (0,0))) (fun _ _ i _=>8-(intOf i).toNat);case atStart=>exact⟨0,rfl,Wo,Wd,Gc.o.heap Gw.o Wz⟩
   case round=>
    obtain⟨j,rfl,hj,ao,ak⟩:=hrel;have F:=qI ao;have m:=qI ak;clear ao ak;have a4:j=0∨j=1∨j=2∨j=3∨j=4∨j=5∨j=6∨j=7∨j=8:=Ws;clear hj;rcases a4 with rfl | rfl | rfl | rfl | rfl | rfl | rfl | rfl | rfl;·have H:=za (o:=0) (v:=.int .u32 s.a) m.o rfl;have z0:=zh (o:=0) m.o;have A:∀ W,(Instr.index 221 (.agg #[.int .u32 r.a,.int .u32 r.b,.int .u32 r.c,.int .u32 r.d,.int .u32 r.e,.int .u32 r.f,.int .u32 r.g,.int .u32 r.h]) (.int .i64 0)).run prog W = .ok (.int .u32 r.a) W:=qw (t:=0) rfl Wo;go_wp2;case roundEnd=>exact⟨⟨1,by go_num,Wo,F.o.trans' ((zb.refl [w.heap.size] wr).setCell (.inl Wz) _),zd (i:=0) (v:=.int .u32 ((s.a+r.a)%4294967296)) m.o rfl⟩,by simp [intOf]⟩
    ·have H:=za (o:=1) (v:=.int .u32 s.b) m.o rfl;have z0:=zh (o:=1) m.o;have A:∀ W,(Instr.index 221 (.agg #[.int .u32 r.a,.int .u32 r.b,.int .u32 r.c,.int .u32 r.d,.int .u32 r.e,.int .u32 r.f,.int .u32 r.g,.int .u32 r.h]) (.int .i64 1)).run prog W = .ok (.int .u32 r.b) W:=qw (t:=1) rfl Wo;go_wp2;case roundEnd=>exact⟨⟨2,by go_num,Wo,F.o.trans' ((zb.refl [w.heap.size] wr).setCell (.inl Wz) _),zd (i:=1) (v:=.int .u32 ((s.b+r.b)%4294967296)) m.o rfl⟩,by simp [intOf]⟩
    ·have H:=za (o:=2) (v:=.int .u32 s.c) m.o rfl;have z0:=zh (o:=2) m.o;have A:∀ W,(Instr.index 221 (.agg #[.int .u32 r.a,.int .u32 r.b,.int .u32 r.c,.int .u32 r.d,.int .u32 r.e,.int .u32 r.f,.int .u32 r.g,.int .u32 r.h]) (.int .i64 2)).run prog W = .ok (.int .u32 r.c) W:=qw (t:=2) rfl Wo;go_wp2;case roundEnd=>exact⟨⟨3,by go_num,Wo,F.o.trans' ((zb.refl [w.heap.size] wr).setCell (.inl Wz) _),zd (i:=2) (v:=.int .u32 ((s.c+r.c)%4294967296)) m.o rfl⟩,by simp [intOf]⟩
    ·have H:=za (o:=3) (v:=.int .u32 s.d) m.o rfl;have z0:=zh (o:=3) m.o;have A:∀ W,(Instr.index 221 (.agg #[.int .u32 r.a,.int .u32 r.b,.int .u32 r.c,.int .u32 r.d,.int .u32 r.e,.int .u32 r.f,.int .u32 r.g,.int .u32 r.h]) (.int .i64 3)).run prog W = .ok (.int .u32 r.d) W:=qw (t:=3) rfl Wo;go_wp2;case roundEnd=>exact⟨⟨4,by go_num,Wo,F.o.trans' ((zb.refl [w.heap.size] wr).setCell (.inl Wz) _),zd (i:=3) (v:=.int .u32 ((s.d+r.d)%4294967296)) m.o rfl⟩,by simp [intOf]⟩
    ·have H:=za (o:=4) (v:=.int .u32 s.e) m.o rfl;have z0:=zh (o:=4) m.o;have A:∀ W,(Instr.index 221 (.agg #[.int .u32 r.a,.int .u32 r.b,.int .u32 r.c,.int .u32 r.d,.int .u32 r.e,.int .u32 r.f,.int .u32 r.g,.int .u32 r.h]) (.int .i64 4)).run prog W = .ok (.int .u32 r.e) W:=qw (t:=4) rfl Wo;go_wp2;case roundEnd=>exact⟨⟨5,by go_num,Wo,F.o.trans' ((zb.refl [w.heap.size] wr).setCell (.inl Wz) _),zd (i:=4) (v:=.int .u32 ((s.e+r.e)%4294967296)) m.o rfl⟩,by simp [intOf]⟩
    ·have H:=za (o:=5) (v:=.int .u32 s.f) m.o rfl;have z0:=zh (o:=5) m.o;have A:∀ W,(Instr.index 221 (.agg #[.int .u32 r.a,.int .u32 r.b,.int .u32 r.c,.int .u32 r.d,.int .u32 r.e,.int .u32 r.f,.int .u32 r.g,.int .u32 r.h]) (.int .i64 5)).run prog W = .ok (.int .u32 r.f) W:=qw (t:=5) rfl Wo;go_wp2;case roundEnd=>exact⟨⟨6,by go_num,Wo,F.o.trans' ((zb.refl [w.heap.size] wr).setCell (.inl Wz) _),zd (i:=5) (v:=.int .u32 ((s.f+r.f)%4294967296)) m.o rfl⟩,by simp [intOf]⟩
    ·have H:=za (o:=6) (v:=.int .u32 s.g) m.o rfl;have z0:=zh (o:=6) m.o;have A:∀ W,(Instr.index 221 (.agg #[.int .u32 r.a,.int .u32 r.b,.int .u32 r.c,.int .u32 r.d,.int .u32 r.e,.int .u32 r.f,.int .u32 r.g,.int .u32 r.h]) (.int .i64 6)).run prog W = .ok (.int .u32 r.g) W:=qw (t:=6) rfl Wo;go_wp2;case roundEnd=>exact⟨⟨7,by go_num,Wo,F.o.trans' ((zb.refl [w.heap.size] wr).setCell (.inl Wz) _),zd (i:=6) (v:=.int .u32 ((s.g+r.g)%4294967296)) m.o rfl⟩,by simp [intOf]⟩
    ·have H:=za (o:=7) (v:=.int .u32 s.h) m.o rfl;have z0:=zh (o:=7) m.o;have A:∀ W,(Instr.index 221 (.agg #[.int .u32 r.a,.int .u32 r.b,.int .u32 r.c,.int .u32 r.d,.int .u32 r.e,.int .u32 r.f,.int .u32 r.g,.int .u32 r.h]) (.int .i64 7)).run prog W = .ok (.int .u32 r.h) W:=qw (t:=7) rfl Wo;go_wp2;case roundEnd=>exact⟨⟨8,by go_num,Wo,F.o.trans' ((zb.refl [w.heap.size] wr).setCell (.inl Wz) _),zd (i:=7) (v:=.int .u32 ((s.h+r.h)%4294967296)) m.o rfl⟩,by simp [intOf]⟩
    have u:Hid (wr.heap[w.heap.size+1]? = some (.cells #[.int .u32 0,.int .u32 0,.int .u32 0,.int .u32 0,.int .u32 0,.int .u32 0,.int .u32 0,.int .u32 0] 221 (0,0))):=qI (F.o.heap (Gc.o.heap Gm.o Wz) Wz);have d0:=za (o:=0) (v:=.int .u32 0) u.o rfl;have f0:=zh (o:=0) u.o;have H:=za (o:=0) (v:=.int .u32 ((s.a+r.a)%4294967296)) m.o rfl;have d1:=za (o:=1) (v:=.int .u32 0) u.o rfl;have f1:=zh (o:=1) u.o;have q1:=za (o:=1) (v:=.int .u32 ((s.b+r.b)%4294967296)) m.o rfl;have d2:=za (o:=2) (v:=.int .u32 0) u.o rfl;have f2:=zh (o:=2) u.o;have q2:=za (o:=2) (v:=.int .u32 ((s.c+r.c)%4294967296)) m.o rfl;have d3:=za (o:=3) (v:=.int .u32 0) u.o rfl;have f3:=zh (o:=3) u.o;have q3:=za (o:=3) (v:=.int .u32 ((s.d+r.d)%4294967296)) m.o rfl;have d4:=za (o:=4) (v:=.int .u32 0) u.o rfl;have f4:=zh (o:=4) u.o;have q4:=za (o:=4) (v:=.int .u32 ((s.e+r.e)%4294967296)) m.o rfl;have d5:=za (o:=5) (v:=.int .u32 0) u.o rfl;have f5:=zh (o:=5) u.o;have q5:=za (o:=5) (v:=.int .u32 ((s.f+r.f)%4294967296)) m.o rfl;have d6:=za (o:=6) (v:=.int .u32 0) u.o rfl;have f6:=zh (o:=6) u.o;have q6:=za (o:=6) (v:=.int .u32 ((s.g+r.g)%4294967296)) m.o rfl;have d7:=za (o:=7) (v:=.int .u32 0) u.o rfl;have f7:=zh (o:=7) u.o;have q7:=za (o:=7) (v:=.int .u32 ((s.h+r.h)%4294967296)) m.o rfl;go_wp2_with fail;clear d0 f0 H d1 f1 q1 d2 f2 q2 d3 f3 q3 d4 f4 q4 d5 f5 q5 d6 f6 q6 d7 f7 q7;have ah:=zd (i:=0) (v:=.int .u32 ((s.a+r.a)%4294967296)) (d:=#[.int .u32 ((s.a+r.a)%4294967296),.int .u32 0,.int .u32 0,.int .u32 0,.int .u32 0,.int .u32 0,.int .u32 0,.int .u32 0]) u.o rfl;have an:=zd (i:=1) (v:=.int .u32 ((s.b+r.b)%4294967296)) (d:=#[.int .u32 ((s.a+r.a)%4294967296),.int .u32 ((s.b+r.b)%4294967296),.int .u32 0,.int .u32 0,.int .u32 0,.int .u32 0,.int .u32 0,.int .u32 0]) ah rfl;have n:=zd (i:=2) (v:=.int .u32 ((s.c+r.c)%4294967296)) (d:=#[.int .u32 ((s.a+r.a)%4294967296),.int .u32 ((s.b+r.b)%4294967296),.int .u32 ((s.c+r.c)%4294967296),.int .u32 0,.int .u32 0,.int .u32 0,.int .u32 0,.int .u32 0]) an rfl;have ae:=zd (i:=3) (v:=.int .u32 ((s.d+r.d)%4294967296)) (d:=#[.int .u32 ((s.a+r.a)%4294967296),.int .u32 ((s.b+r.b)%4294967296),.int .u32 ((s.c+r.c)%4294967296),.int .u32 ((s.d+r.d)%4294967296),.int .u32 0,.int .u32 0,.int .u32 0,.int .u32 0]) n rfl;have am:=zd (i:=4) (v:=.int .u32 ((s.e+r.e)%4294967296)) (d:=#[.int .u32 ((s.a+r.a)%4294967296),.int .u32 ((s.b+r.b)%4294967296),.int .u32 ((s.c+r.c)%4294967296),.int .u32 ((s.d+r.d)%4294967296),.int .u32 ((s.e+r.e)%4294967296),.int .u32 0,.int .u32 0,.int .u32 0]) ae rfl;have al:=zd (i:=5) (v:=.int .u32 ((s.f+r.f)%4294967296)) (d:=#[.int .u32 ((s.a+r.a)%4294967296),.int .u32 ((s.b+r.b)%4294967296),.int .u32 ((s.c+r.c)%4294967296),.int .u32 ((s.d+r.d)%4294967296),.int .u32 ((s.e+r.e)%4294967296),.int .u32 ((s.f+r.f)%4294967296),.int .u32 0,.int .u32 0]) am rfl;have ax:=zd (i:=6) (v:=.int .u32 ((s.g+r.g)%4294967296)) (d:=#[.int .u32 ((s.a+r.a)%4294967296),.int .u32 ((s.b+r.b)%4294967296),.int .u32 ((s.c+r.c)%4294967296),.int .u32 ((s.d+r.d)%4294967296),.int .u32 ((s.e+r.e)%4294967296),.int .u32 ((s.f+r.f)%4294967296),.int .u32 ((s.g+r.g)%4294967296),.int .u32 0]) al rfl;have ay:=zd (i:=7) (v:=.int .u32 ((s.h+r.h)%4294967296)) (d:=#[.int .u32 ((s.a+r.a)%4294967296),.int .u32 ((s.b+r.b)%4294967296),.int .u32 ((s.c+r.c)%4294967296),.int .u32 ((s.d+r.d)%4294967296),.int .u32 ((s.e+r.e)%4294967296),.int .u32 ((s.f+r.f)%4294967296),.int .u32 ((s.g+r.g)%4294967296),.int .u32 ((s.h+r.h)%4294967296)]) ax rfl;have q:=ay;clear ah an n ae am al ax ay;have Q:=(((((((((zb.refl [w.heap.size+1] wr).setCell (p:=⟨w.heap.size+1,0,none⟩) (.inl Wz) (.int .u32 ((s.a+r.a)%4294967296))).setCell (p:=⟨w.heap.size+1,1,none⟩) (.inl Wz) (.int .u32 ((s.b+r.b)%4294967296))).setCell (p:=⟨w.heap.size+1,2,none⟩) (.inl Wz) (.int .u32 ((s.c+r.c)%4294967296))).setCell (p:=⟨w.heap.size+1,3,none⟩) (.inl Wz) (.int .u32 ((s.d+r.d)%4294967296))).setCell (p:=⟨w.heap.size+1,4,none⟩) (.inl Wz) (.int .u32 ((s.e+r.e)%4294967296))).setCell (p:=⟨w.heap.size+1,5,none⟩) (.inl Wz) (.int .u32 ((s.f+r.f)%4294967296))).setCell (p:=⟨w.heap.size+1,6,none⟩) (.inl Wz) (.int .u32 ((s.g+r.g)%4294967296))).setCell (p:=⟨w.heap.size+1,7,none⟩) (.inl Wz) (.int .u32 ((s.h+r.h)%4294967296)));revert q Q;generalize a7:((((((((wr.setCell ⟨w.heap.size+1,0,none⟩ (.int .u32 ((s.a+r.a)%4294967296))).setCell ⟨w.heap.size+1,1,none⟩ (.int .u32 ((s.b+r.b)%4294967296))).setCell ⟨w.heap.size+1,2,none⟩ (.int .u32 ((s.c+r.c)%4294967296))).setCell ⟨w.heap.size+1,3,none⟩ (.int .u32 ((s.d+r.d)%4294967296))).setCell ⟨w.heap.size+1,4,none⟩ (.int .u32 ((s.e+r.e)%4294967296))).setCell ⟨w.heap.size+1,5,none⟩ (.int .u32 ((s.f+r.f)%4294967296))).setCell ⟨w.heap.size+1,6,none⟩ (.int .u32 ((s.g+r.g)%4294967296))).setCell ⟨w.heap.size+1,7,none⟩ (.int .u32 ((s.h+r.h)%4294967296)))=WF;intro q Q;have Js:=qI Q;have x0:=za (o:=0) (v:=.int .u32 ((s.a+r.a)%4294967296)) q rfl;have x1:=za (o:=1) (v:=.int .u32 ((s.b+r.b)%4294967296)) q rfl;have x2:=za (o:=2) (v:=.int .u32 ((s.c+r.c)%4294967296)) q rfl;have x3:=za (o:=3) (v:=.int .u32 ((s.d+r.d)%4294967296)) q rfl;have x4:=za (o:=4) (v:=.int .u32 ((s.e+r.e)%4294967296)) q rfl;have x5:=za (o:=5) (v:=.int .u32 ((s.f+r.f)%4294967296)) q rfl;have x6:=za (o:=6) (v:=.int .u32 ((s.g+r.g)%4294967296)) q rfl;have x7:=za (o:=7) (v:=.int .u32 ((s.h+r.h)%4294967296)) q rfl;have a1:jt s l=⟨(s.a+r.a)%4294967296,(s.b+r.b)%4294967296,(s.c+r.c)%4294967296,(s.d+r.d)%4294967296,(s.e+r.e)%4294967296,(s.f+r.f)%4294967296,(s.g+r.g)%4294967296,(s.h+r.h)%4294967296⟩:=by unfold jt;rw [← Jo.o,← HR.o]
    exact bodyPost_ret (v:=.agg #[.int .u32 ((s.a+r.a)%4294967296),.int .u32 ((s.b+r.b)%4294967296),.int .u32 ((s.c+r.c)%4294967296),.int .u32 ((s.d+r.d)%4294967296),.int .u32 ((s.e+r.e)%4294967296),.int .u32 ((s.f+r.f)%4294967296),.int .u32 ((s.g+r.g)%4294967296),.int .u32 ((s.h+r.h)%4294967296)]) (by simp [results,results188,go_sem,x0,x1,x2,x3,x4,x5,x6,x7]) rfl ⟨by rw [a1],ZH ((((Gh.o.mono (Y:=[w.heap.size,w.heap.size+1]) Wz).trans' (Gc.o.mono Wz)).trans' (F.o.mono Wz)).trans' (Js.o.mono Wz)) Wz⟩
  have aw:(t:Int)<64:=Ws;obtain⟨K,U⟩:=XF (KS.getD t 0);obtain⟨W,ab⟩:=XF (WS.getD t 0);have a6:=qI U;have a2:=qI ab;have au:KC[t]? = some (.int .u32 K):=by rw [Gx.o,U];have:=JR KS 0 t (by rw [ks_len];exact I);simpa [wv] using this
  have a5:KC.size=64:=by rw [Gx.o];rfl
  have ag:wr.cell? ⟨y.heap.size,t,none⟩=some (.int .u32 W):=by have h8:=JR WS 0 t (by rw [Jp.o];exact I);have h9:=Jr.o t _ (by rw [Jq.o];exact h8);rw [Nat.zero_add] at h9;rw [ab];exact (Gt.o.then D).cell h9 Wz
  have a3:=index_words au aw;have Gf:=qI I;clear U ab D hr ht au a5;have E0:=zv ag;have CR:Hid (∀ (k up B:Int) (x:Int),vZ k up B→∀ z:Ext wr,Calls prog 235 #[.int .u32 x,.int .i64 k] z.w fun e w'=>e = .returned (.int .u32 (Kl up B x))∧zb [] z.w w'):=qI (fun k up B x h z=>jc _ x k up B h);have C6:=qI (CR.o 6 67108864 64 r.e (by unfold vZ;decide));have az:=qI (CR.o 11 2097152 2048 r.e (by unfold vZ;decide));have a0:=qI (CR.o 25 128 33554432 r.e (by unfold vZ;decide));go_upto_region 8 with fail;clear ag;refine yg wr Wr Wr Wd ?_;repeat go_big_quiet_step ((go_at_call 235;first | exact JU (C6.o _) | exact JU (az.o _) | exact JU (a0.o _)))
  refine wpQuiet_nil ?_;intro w4 ar;have Gc:=qI ar;clear E0 ar;obtain⟨T1,G⟩:∃ T1,t1W r K W=T1:=⟨_,rfl⟩;have Gy:=qI G;unfold t1W at G;simp only [G];clear G a3;go_wp2_with fail;refine (jc _ r.a 2 1073741824 4 (by unfold vZ;decide)).mono ?_;rintro e w5 ⟨rfl,ad⟩;have Gs:=qI (Gc.o.then ad);clear ad;go_wp2_with fail;refine (jc _ r.a 13 524288 8192 (by unfold vZ;decide)).mono ?_;rintro e w6 ⟨rfl,aq⟩;have Gj:=qI (Gs.o.then aq);clear aq;go_wp2_with fail;refine (jc _ r.a 22 1024 4194304 (by unfold vZ;decide)).mono ?_;rintro e w7 ⟨rfl,av⟩;have Jt:=qI (Gj.o.then av);clear av;go_upto_region 10 with fail;obtain⟨T2,N⟩:∃ T2,t2W r=T2:=⟨_,rfl⟩;have Ju:=qI N;unfold t2W at N;simp only [N];clear N;go_wp2;case roundEnd=>exact⟨⟨t+1,by go_num,by have:=Gf.o;omega,Gi.o.then Jt.o,roundS r K W,by
   rw [a6.o,a2.o,HR.o];rfl,by
   show _=Value.int .u32 ((t1W r K W+t2W r)%4294967296);rw [Gy.o,Ju.o],rfl,rfl,rfl,by
   show _=Value.int .u32 ((r.d+t1W r K W)%4294967296);rw [Gy.o],rfl,rfl,rfl⟩,by have:=Gf.o;simp [intOf];omega⟩
end Go.Proofs.YtjccecajigmfkaaGreatDoor

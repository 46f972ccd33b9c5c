/- Parts of one proof, merged: XJD XJE XJF XJG XJH. -/
import Derived.Test.YtjccecajigmfkaaGreatDoorSdO
set_option linter.all false
set_option maxHeartbeats 12800000
set_option maxRecDepth 10000
namespace Go.Proofs.YtjccecajigmfkaaGreatDoor
open Go.Proofs.Tryz
open Go.RowKit
variable {X:List Nat}{a:Option Addr}{l:List UInt8}{n:Int}{p:Nat}{v:Value}{w w':World}
def zX:S8:=⟨1779033703,3144134277,1013904242,2773480762,1359893119,2600822924,528734635,1541459225⟩
def hashC (s:S8)(v:Value)(n:Int):Array Value:=#[.int .u32 s.a,.int .u32 s.b,.int .u32 s.c,.int .u32 s.d,.int .u32 s.e,.int .u32 s.f,.int .u32 s.g,.int .u32 s.h,v,.int .i64 n]
def yx (w:World)(p:Nat)(s:S8)(v:Value)(n:Int):Prop:=w.heap[p]? = some (.cells (hashC s v n) 224 (0,0))
theorem yx.kept {s:S8}(h:yx w p s v n)(k:zb X w w')(hp:p ∉ X):yx w' p s v n:=k.heap h hp
theorem start_any (w:World):zG w 186 #[] (.agg #[.int .u32 zX.a,.int .u32 zX.b,.int .u32 zX.c,.int .u32 zX.d,.int .u32 zX.e,.int .u32 zX.f,.int .u32 zX.g,.int .u32 zX.h]):=by
 go_enter func186,ntmps186;go_wp2;exact bodyPost_ret (v:=.agg #[.int .u32 zX.a,.int .u32 zX.b,.int .u32 zX.c,.int .u32 zX.d,.int .u32 zX.e,.int .u32 zX.f,.int .u32 zX.g,.int .u32 zX.h]) (by simp [results,results186,go_sem,zX]) rfl ⟨rfl,Wd.alloc _⟩
theorem new_any (w:World):Calls prog 144 #[] w fun e w'=>∃ p,e = .returned (.pointer (some ⟨p,0,none⟩))∧w.heap.size≤p∧yx w' p zX (.slice none 0 0) 0∧zb [] w w':=by
 have d:=qI (start_any w);go_enter func144,ntmps144;go_wp2_with fail;refine d.o.mono ?_;rintro e w1 ⟨rfl,a⟩;have b:=qI a;clear a;go_wp2;go_ret;exact⟨w1.heap.size,rfl,b.o.size,zd rfl,b.o.alloc _⟩
def putB (n sz i:Nat):UInt8:=UInt8.ofNat (n/2 ^ (8*(sz-1-i)))
def j8 (n sz:Nat):List UInt8:=(List.range sz).map (putB n sz)
theorem xy (n a:Nat):(j8 n a).length=a:=by simp [j8]
theorem zcc (m:Nat):bv (UInt8.ofNat m) = .int .u8 ((m:Int)%256):=by
 simp [bv,UInt8.toNat_ofNat]
def zci (n sz k:Nat):List UInt8:=(List.range sz).map (fun i=>if i<k then putB n sz i else 0)
theorem putK_zero (n a:Nat):zci n a 0=List.replicate a 0:=by
 apply uZ;·simp [zci]
 ·intro i b h2;simp [zci]
theorem putK_all (n a:Nat):zci n a a=j8 n a:=by
 apply un;intro i b;rw [XK (ur.1 b)]
theorem putK_set (n a k:Nat)(f:k<a):((zci n a k).map bv).set k (.int .u8 ((n:Int)/2 ^ (8*(a-1-k))%256))=(zci n a (k+1)).map bv:=by
 have b:Value.int .u8 ((n:Int)/2 ^ (8*(a-1-k))%256)=bv (putB n a k):=by rw [putB,zcc];simp
 rw [b];apply uZ;·simp [zci]
 ·intro i d h2;rw [List.getElem_set];by_cases e:k=i;·subst e;simp [zci]
  ·rw [XJ e];simp only [zci,uJ,List.getElem_range];congr 1;by_cases h:i<k;·rw [XK h,XK Ws]
   ·rw [XJ h,XJ Ws]
theorem run_makeB (W:World)(n:Nat)(a:n≤lim):(Instr.makeSlice 32 (.int .i64 n) (.int .i64 n)).run prog W = .ok (.slice (some ⟨W.heap.size,0,none⟩) n n) (W.alloc (.cells (madeCells #[.int .u8 0] n) 5)):=by
 obtain⟨i,e,b,d,f⟩:=info_parts vS.info;have:=run_make (P:=prog) W 32 5 i (.int .u8 0) underlying32 e b .i64 .i64 n n Ws Ws (by rw [f];unfold lim at a;omega) (by unfold lim at a;omega);rw [d] at this;simpa [Value.cells] using this
theorem zeros_list (n:Nat):(madeCells #[.int .u8 0] n).toList=(List.replicate n (0:UInt8)).map bv:=by
 rw [toList_madeCells_one,List.map_replicate];rfl
theorem zeros_own (W:World)(base n:Nat)(b:n≤lim)(a:base≤W.heap.size):(W.alloc (.cells (madeCells #[.int .u8 0] n) 5)).ownsRow base 5 1 (.slice (some ⟨W.heap.size,0,none⟩) n n) n ((List.replicate n (0:UInt8)).map bv):=by
 rw [← zeros_list];exact World.ownsRow_lit W (madeCells #[.int .u8 0] n) n a (by simp only [maxLen];unfold lim at b;omega) (by simp [size_madeCells])
theorem Kv (n b:Nat)(w:World)(H:1≤b)(E:b≤8)(u:b=8∨n<2 ^ (8*b)):Calls prog 96 #[.int .i64 n,.int .i64 b] w fun e w'=>∃ a c,e = .returned (.tuple #[.slice a b c,.int .i64 0])∧w'.ownsRow w.heap.size 5 1 (.slice a b c) b ((j8 n b).map bv)∧zb [] w w':=by
 have m:=fun W=>run_makeB W b (by unfold lim;omega);have f:=qI (zeros_own w w.heap.size b (by unfold lim;omega) (XA));have C:(1:Int)≤b:=Ws;have v:(b:Int)≤8:=Ws;have y:=qI u;obtain⟨A,q⟩:=XE (w.alloc (.cells (madeCells #[.int .u8 0] b) 5));have D:Hid (zb [] w A):=qI (kA1 q.o);rw [← q.o] at f;clear u;rcases Xr b 8 with h8 | h8
 case' inr=>have p:(8:Int)≤b:=Ws
 case' inl=>have p:(b:Int)<8:=Ws;have G:((n:Int)/2 ^ (8*b) != 0)=false:=by have x:n/2 ^ (8*b)=0:=Nat.div_eq_of_lt (y.o.resolve_left Ws);have h2:((n:Int)/2 ^ (8*b))=((n/2 ^ (8*b):Nat):Int):=Wz;rw [h2,x];rfl
 all_goals
  go_enter func96,ntmps96;go_wp2_with fail;rw [← q.o];go_loopw [33] (fun i wr=>∃ k:Nat,i = .int .i64 k∧k≤b∧wr.ownsRow w.heap.size 5 1 (.slice (some ⟨w.heap.size,0,none⟩) b b) b ((zci n b k).map bv)∧zb [] w wr) (fun i _=>b-(intOf i).toNat);case atStart=>exact⟨0,rfl,XB,by rw [putK_zero];exact f.o,D.o⟩
  case round=>
   obtain⟨k,rfl,I,d,j⟩:=hrel;have h:=qI d;have r:=qI j;by_cases z:k<b
   ·have F:(k:Int)<b:=by omega
    have hc:=d.cellAt k Ws;have J:=d.frozenAt k;obtain⟨t,B⟩:∃ t,wr.cell? ⟨w.heap.size,k,none⟩=some t:=by refine⟨_,hc.trans (XN ?_)⟩;simp [zci];omega
    clear hc d j m;go_wp2;case roundEnd=>have l:=(h.o.stored k (.int .u8 ((n:Int)/2 ^ (8*(b-1-k))%256))).1;rw [putK_set n b k z] at l;exact⟨⟨k+1,by go_num,Ws,l,r.o.setCell Wz _⟩,by simp [intOf];omega⟩
   ·obtain rfl:k=b:=by omega
    clear d j;go_wp2;go_ret2;have s:=h.o;rw [putK_all] at s;exact⟨_,_,rfl,s,r.o⟩
theorem Kk (n a:Nat)(w:World)(d:1≤a)(b:a≤8)(f:a=8∨n<2 ^ (8*a)):Calls prog 96 #[.int .i64 n,.int .i64 a] w fun e w'=>∃ v,e = .returned (.tuple #[v,.int .i64 0])∧qw w w' v (j8 n a)∧zb [] w w':=
 (Kv n a w d b f).mono fun _ _ ⟨_,_,h1,h2,h3⟩=>⟨_,h1,ji h2,h3⟩
theorem yx.lt {s:S8}(h:yx w p s v n):p<w.heap.size:=by
 unfold yx at h;exact (Array.getElem?_eq_some_iff.1 h).1
theorem yx.c {s:S8}(h:yx w p s v n):w.cell? ⟨p,0,none⟩=some (.int .u32 s.a)∧w.cell? ⟨p,1,none⟩=some (.int .u32 s.b)∧w.cell? ⟨p,2,none⟩=some (.int .u32 s.c)∧w.cell? ⟨p,3,none⟩=some (.int .u32 s.d)∧w.cell? ⟨p,4,none⟩=some (.int .u32 s.e)∧w.cell? ⟨p,5,none⟩=some (.int .u32 s.f)∧w.cell? ⟨p,6,none⟩=some (.int .u32 s.g)∧w.cell? ⟨p,7,none⟩=some (.int .u32 s.h)∧w.cell? ⟨p,8,none⟩=some v∧w.cell? ⟨p,9,none⟩=some (.int .i64 n):=
 ⟨za h rfl,za h rfl,za h rfl,za h rfl,za h rfl,za h rfl,za h rfl,za h rfl,za h rfl,za h rfl⟩
theorem yx.kd {s:S8}(h:yx w p s v n):kind w p=224+2:=zQ h
theorem fork_any (w:World)(p:Nat)(s:S8)(v:Value)(l:List UInt8)(n:Int)(h:yx w p s v n)(x:zm w v l)(G:l.length≤lim):Calls prog 189 #[.pointer (some ⟨p,0,none⟩)] w fun e w'=>∃ q v',e = .returned (.pointer (some ⟨q,0,none⟩))∧w.heap.size≤q∧yx w' q s v' n∧zm w' v' l∧(∀ g,yt v'=some g→w.heap.size≤g∧kind w' g=5+2)∧zb [] w w':=by
 have L:=qI h;have P:=qI x;have N:=qI G;clear h x G;go_enter func189,ntmps189;go_wp2_with fail;refine zu (n:=16) (fun w':World=>yx w' p s v n∧zm w' v l∧zb [] w w') 15 Wr Wr ?_;change zT _ _ _ _ _ _ _ _ _ w.drew;have a:(fun w':World=>yx w' p s v n∧zm w' v l∧zb [] w w') w.drew:=⟨L.o.kept (zb.refl [] w).drew Wz,P.o.k0 (zb.refl [] w).drew,(zb.refl [] w).drew⟩;revert a;generalize w.drew=W2;intro a;refine zF ?_;intro O R f C;have d:jA R:=by subst C;exact fun _ _ _ _ _ h=>h
 refine qT 0 ?_ f rfl rfl Wr d (fun w b=>?_) a ?_;rotate_left;·exact zg
 try simp only [XI]
 refine qT 1 ?_ f rfl rfl Wr d (fun w b=>?_) a ?_;rotate_left;·exact zg
 try simp only [XI]
 refine qT 2 ?_ f rfl rfl Wr d (fun w b=>?_) a ?_;rotate_left;·exact zg
 try simp only [XI]
 refine qT 3 ?_ f rfl rfl Wr d (fun w b=>?_) a ?_;rotate_left;·obtain⟨D,y,H,E,z,I,J,A,B,F⟩:=b.1.c;exact zg
 try simp only [XI]
 refine qT 4 ?_ f rfl rfl Wr d (fun w b=>?_) a ?_;rotate_left;·exact zg
 try simp only [XI]
 refine qT 5 ?_ f rfl rfl Wr d (fun w b=>?_) a ?_;rotate_left;·exact zg
 try simp only [XI]
 refine qT 6 ?_ f rfl rfl Wr d (fun w b=>?_) a ?_;rotate_left;·exact zg
 try simp only [XI]
 refine qT 7 ?_ f rfl rfl Wr d (fun w b=>?_) a ?_;rotate_left;·obtain⟨D,y,H,E,z,I,J,A,B,F⟩:=b.1.c;exact zg
 try simp only [XI]
 refine qT 9 ?_ f rfl rfl Wr d (fun w b=>?_) a ?_;rotate_left;·exact zg
 try simp only [XI]
 refine qT 10 ?_ f rfl rfl Wr d (fun w b=>?_) a ?_;rotate_left;·exact zg
 try simp only [XI]
 refine qT 11 ?_ f rfl rfl Wr d (fun w b=>?_) a ?_;rotate_left;·exact zg
 try simp only [XI]
 refine qT 12 ?_ f rfl rfl Wr d (fun w b=>?_) a ?_;rotate_left;·obtain⟨D,y,H,E,z,I,J,A,B,F⟩:=b.1.c;exact zg
 try simp only [XI]
 refine qO 8 f rfl Wr (fun K i=>?_);go_simp;refine Calls.mono (bg v l W2 a.2.1 N.o) ?_;rintro e t ⟨v',rfl,k,m⟩;obtain⟨U,Q,rfl,-,-⟩:=k.1.form;have j:(fun w':World=>yx w' p s v n∧zm w' v l∧zb [] w w') t:=⟨a.1.kept m Wz,a.2.1.k0 m,a.2.2.then m⟩;have r:=qI k;have M:Hid (w.heap.size≤W2.heap.size):=qI a.2.2.size;clear k;refine i _ _ (.inr j) ?_;clear i K;try simp only [XI]
 clear a;have a:=j;clear j;refine qT 13 ?_ f rfl rfl Wr d (fun w b=>?_) a ?_;rotate_left;·exact zg
 try simp only [XI]
 refine qO 14 f rfl Wr (fun K i=>?_);go_simp;refine i _ _ (.inr ⟨a.1.kept ((zb.refl [] _).alloc _) Wz,a.2.1.k0 ((zb.refl [] _).alloc _),a.2.2.alloc _⟩) ?_;clear i K;try simp only [XI]
 refine qO 15 f rfl Wr (fun K i=>?_);go_simp;refine i _ _ (.inl rfl) ?_;clear i K;try simp only [XI]
 refine zE f Wr ?_ _;subst C;try clear d f O
 go_wp2;go_ret;exact⟨t.heap.size,rfl,a.2.2.size,_,zd rfl,r.o.1.k0 ((zb.refl [] t).alloc _),fun g u=>⟨X7 M.o (r.o.2 g u).1,(((zb.refl [] t).alloc _).kind (r.o.1.lt u) Wz).trans (r.o.2 g u).2⟩,a.2.2.alloc _⟩
def zaW:Nat→S8→List UInt8→S8×List UInt8
 | 0,s,l=>(s,l)
 | k+1,s,l=>if 64≤l.length then zaW k (jM s (l.take 64)) (l.drop 64) else (s,l)
def vN (s:S8)(l:List UInt8):S8×List UInt8:=zaW l.length s l
theorem Qf:∀ (k:Nat) (s:S8) (l:List UInt8),l.length≤k→zaW k s l=zaW l.length s l
 | 0,s,l,h=>by have:l=[]:=Xh Ws;subst this;rfl
 | k+1,s,l,h=>by
  by_cases a:64≤l.length;·obtain⟨m,hm⟩:∃ m,l.length=m+1:=⟨l.length - 1,Ws⟩;rw [hm];simp only [zaW];rw [XK a,XK a,Qf k _ _ (by simp;omega),Qf m _ _ (by simp;omega)]
  ·obtain h0 | ⟨m,hm⟩:l.length=0∨∃ m,l.length=m+1:=by
    cases b:l.length with
    | zero=>exact .inl rfl
    | succ m=>exact .inr ⟨m,rfl⟩
   ·rw [h0];simp only [zaW];rw [XJ a]
   ·rw [hm];simp only [zaW];rw [XJ a,XJ a]
theorem QO (s:S8)(l:List UInt8)(h:64≤l.length):vN s l=vN (jM s (l.take 64)) (l.drop 64):=by
 unfold vN;obtain⟨m,hm⟩:∃ m,l.length=m+1:=⟨l.length - 1,Ws⟩;rw [hm];simp only [zaW];rw [XK h,Qf m _ _ (by simp;omega)]
theorem ZJ (s:S8)(l:List UInt8)(h:l.length<64):vN s l=(s,l):=by
 unfold vN;cases a:l.length with
 | zero=>rfl
 | succ m=>simp only [zaW];rw [XJ Ws]
theorem KT (s:S8)(l:List UInt8):(vN s l).2.length<64:=by
 unfold vN;suffices h:∀ (k:Nat) (s:S8) (l:List UInt8),l.length≤k→(zaW k s l).2.length<64 from h _ s l (XA);intro k;induction k with
 | zero=>intro s l h;simp only [zaW];omega
 | succ k ih=>
  intro s l h;simp only [zaW];split;·exact ih _ _ (by simp;omega)
  ·simp only;omega
def sliceLen:Value→Nat
 | .slice _ n _=>n
 | _=>0
def S8.agg (s:S8):Value:=.agg #[.int .u32 s.a,.int .u32 s.b,.int .u32 s.c,.int .u32 s.d,.int .u32 s.e,.int .u32 s.f,.int .u32 s.g,.int .u32 s.h]
variable {s:S8}
def putS (w:World)(p:Nat)(r:S8):World:=(((((((w.setCell ⟨p,0,none⟩ (.int .u32 r.a)).setCell ⟨p,1,none⟩ (.int .u32 r.b)).setCell ⟨p,2,none⟩ (.int .u32 r.c)).setCell ⟨p,3,none⟩ (.int .u32 r.d)).setCell ⟨p,4,none⟩ (.int .u32 r.e)).setCell ⟨p,5,none⟩ (.int .u32 r.f)).setCell ⟨p,6,none⟩ (.int .u32 r.g)).setCell ⟨p,7,none⟩ (.int .u32 r.h)
theorem putS_kept (w:World)(p:Nat)(r:S8):zb [p] w (putS w p r):=by
 unfold putS;exact ((((((((zb.refl [p] w).setCell (.inl Wz) _).setCell (.inl Wz) _).setCell (.inl Wz) _).setCell (.inl Wz) _).setCell (.inl Wz) _).setCell (.inl Wz) _).setCell (.inl Wz) _).setCell (.inl Wz) _
theorem yx.putS {w:World}{p:Nat}{s:S8}{v:Value}{n:Int}(h:yx w p s v n)(r:S8):yx (putS w p r) p r v n:=by
 unfold yx hashC at h ⊢;unfold Go.Proofs.YtjccecajigmfkaaGreatDoor.putS;have k:=ze (i:=0) (v:=.int .u32 r.a) (d:=#[.int .u32 r.a,.int .u32 s.b,.int .u32 s.c,.int .u32 s.d,.int .u32 s.e,.int .u32 s.f,.int .u32 s.g,.int .u32 s.h,v,.int .i64 n]) h rfl;have h2:=ze (i:=1) (v:=.int .u32 r.b) (d:=#[.int .u32 r.a,.int .u32 r.b,.int .u32 s.c,.int .u32 s.d,.int .u32 s.e,.int .u32 s.f,.int .u32 s.g,.int .u32 s.h,v,.int .i64 n]) k rfl;have h3:=ze (i:=2) (v:=.int .u32 r.c) (d:=#[.int .u32 r.a,.int .u32 r.b,.int .u32 r.c,.int .u32 s.d,.int .u32 s.e,.int .u32 s.f,.int .u32 s.g,.int .u32 s.h,v,.int .i64 n]) h2 rfl;have l:=ze (i:=3) (v:=.int .u32 r.d) (d:=#[.int .u32 r.a,.int .u32 r.b,.int .u32 r.c,.int .u32 r.d,.int .u32 s.e,.int .u32 s.f,.int .u32 s.g,.int .u32 s.h,v,.int .i64 n]) h3 rfl;have m:=ze (i:=4) (v:=.int .u32 r.e) (d:=#[.int .u32 r.a,.int .u32 r.b,.int .u32 r.c,.int .u32 r.d,.int .u32 r.e,.int .u32 s.f,.int .u32 s.g,.int .u32 s.h,v,.int .i64 n]) l rfl;have h6:=ze (i:=5) (v:=.int .u32 r.f) (d:=#[.int .u32 r.a,.int .u32 r.b,.int .u32 r.c,.int .u32 r.d,.int .u32 r.e,.int .u32 r.f,.int .u32 s.g,.int .u32 s.h,v,.int .i64 n]) m rfl;have j:=ze (i:=6) (v:=.int .u32 r.g) (d:=#[.int .u32 r.a,.int .u32 r.b,.int .u32 r.c,.int .u32 r.d,.int .u32 r.e,.int .u32 r.f,.int .u32 r.g,.int .u32 s.h,v,.int .i64 n]) h6 rfl;have q:=ze (i:=7) (v:=.int .u32 r.h) (d:=#[.int .u32 r.a,.int .u32 r.b,.int .u32 r.c,.int .u32 r.d,.int .u32 r.e,.int .u32 r.f,.int .u32 r.g,.int .u32 r.h,v,.int .i64 n]) j rfl;exact q
theorem yx.putV (h:yx w p s v n)(u:Value):yx (w.setCell ⟨p,8,none⟩ u) p s u n:=ze (d:=hashC s u n) h rfl
theorem yx.putN (h:yx w p s v n)(m:Int):yx (w.setCell ⟨p,9,none⟩ (.int .i64 m)) p s v m:=ze (d:=hashC s v m) h rfl
theorem kg.keptX (h:kg w)(k:zb X w w')(a:0 ∉ X):kg w':=fun j v hv=>k.cell (h j v hv) a
structure Wrote (w w':World)(p:Nat)(s:S8)(l:List UInt8)(n:Int):Prop where
 hash:∃ v',yx w' p s v' n∧zm w' v' l∧∀ g,yt v'=some g→w.heap.size≤g∧kind w' g=5+2
 kept:zb [p] w w'
 ks:kg w'
theorem zm.head {c:Nat}(h:zm w (.slice a l.length c) l)(k:Nat)(j:k≤l.length):zm w (.slice a k c) (l.take k):=by
 have e:(l.take k).length=k:=by rw [Xe];omega
 unfold zm;rw [e];refine⟨by simp;omega,?_⟩;rcases h.2 with ⟨b,f⟩ | ⟨f,i,cap,b,hm⟩ | ⟨g,o,cap,b,h2,h3,d⟩
 ·simp only [XU] at b;obtain⟨rfl,-,rfl⟩:=b;obtain rfl:k=0:=Ws;exact .inl ⟨rfl,rfl⟩
 ·simp only [XU] at b;obtain⟨rfl,-,rfl⟩:=b;obtain rfl:k=0:=Ws;exact .inr (.inl ⟨rfl,_,_,rfl,hm⟩)
 ·simp only [XU] at b;obtain⟨rfl,-,rfl⟩:=b;refine .inr (.inr ⟨g,o,_,rfl,Ws,h3,?_⟩);rw [List.map_take];exact d.take k
theorem zm.tail {c:Nat}(h:zm w (.slice a l.length c) l)(k:Nat)(t:k≤l.length):zm w (.slice (if c=k then a else a.map fun x=>⟨x.block,x.off+k,none⟩) (l.length-k) (c-k)) (l.drop k)∧∀ g,yt (.slice (if c=k then a else a.map fun x=>⟨x.block,x.off+k,none⟩) (l.length-k) (c-k))=some g→yt (.slice a l.length c)=some g:=by
 have e:(l.drop k).length=l.length-k:=XW;unfold zm;rw [e];rcases h.2 with ⟨b,d⟩ | ⟨d,s,cap,b,hm⟩ | ⟨g,o,cap,b,h2,h3,n⟩
 ·simp only [XU] at b;obtain⟨rfl,-,rfl⟩:=b;obtain rfl:k=0:=Ws;rw [d];exact⟨⟨by simp [d],.inl ⟨rfl,rfl⟩⟩,by simp [yt]⟩
 ·simp only [XU] at b;obtain⟨rfl,-,rfl⟩:=b;obtain rfl:k=0:=Ws;rw [d];refine⟨⟨by simp [d],?_⟩,by intro g m;split at m <;> simp [yt] at m⟩;split;·exact .inr (.inl ⟨rfl,_,_,rfl,Ws⟩)
  ·exact .inr (.inl ⟨rfl,_,_,rfl,Ws⟩)
 ·simp only [XU] at b;obtain⟨rfl,-,rfl⟩:=b;refine⟨⟨Wz,.inr (.inr ?_)⟩,fun r j=>?_⟩
  ·by_cases hc:c=k
   ·rw [XK hc];have q:l.length-k=0:=Ws;exact⟨g,o,_,rfl,Ws,Ws,⟨by
     have:(l.drop k).map bv=[]:=by rw [List.map_eq_nil_iff];exact Xh (by rw [e,q])
     rw [this];simp,n.lt⟩⟩
   ·rw [XJ hc];refine⟨g,o+k,_,rfl,Ws,Ws,?_⟩;rw [List.map_drop];exact n.drop k
  ·obtain⟨p,f⟩:=vu j;have i:r=g:=by split at f <;> simpa [Value.ownBlock,eq_comm] using f
   subst i;exact QD Ws
theorem zm.capL {c n:Nat}(h:zm w (.slice a n c) l):n≤c:=by
 obtain⟨d,e,b,h2,-⟩:=h.form;simp only [XU] at b;obtain⟨-,h3,rfl⟩:=b;omega
structure WRel (W1:World)(p:Nat)(v:Value)(n:Int)(s0:S8)(l0:List UInt8)(x:Value)(wr:World):Prop where
 some_:∃ a c rest s',x = .slice a rest.length c∧zm wr (.slice a rest.length c) rest∧(∀ g,yt (.slice a rest.length c)=some g→g≠p)∧yx wr p s' v n∧vN s' rest=vN s0 l0∧rest.length≤l0.length
 kept:zb [p] W1 wr
theorem J7 (w:World)(p:Nat)(s:S8)(v b:Value)(l k:List UInt8)(n:Int)(h:yx w p s v n)(B:zm w v l)(N:∀ g,yt v=some g→g≠p)(D:zm w b k)(L:∀ g,yt b=some g→g≠p)(P:l.length≤64)(hl:k.length≤100000000000)(ae:0≤n)(Q:n≤100000000000)(t:kg w)(M:p≠0) : Calls prog 145 #[.pointer (some ⟨p,0,none⟩),b] w fun e w'=>e = .returned (.int .i64 k.length)∧Wrote w w' p (vN s (l++k)).1 (vN s (l++k)).2 (n+k.length):=by
 obtain⟨H,G,rfl,-,-⟩:=B.form;obtain⟨W,cb,rfl,-,-⟩:=D.form;have HH:=qI h;have HB:=qI B;have Jj:=qI D;have HX:=qI N;have Jk:=qI L;have Gn:=qI t;have Gq:=qI M;have Jc:=qI P;have HL:=qI hl;have X:(k.length:Int)≤100000000000:=Ws;have ah:(l.length:Int)≤64:=Ws;have x9:=h.c.2.2.2.2.2.2.2.2.2;have y9:=zh (o:=9) h;have Jl:=qI Q;have Jm:=qI ae;have ak:wrap64 (n+k.length)=n+k.length:=by unfold wrap64;omega
 have Jd:Hid ((l++k).length=l.length+k.length):=qI XM;obtain⟨J,Gr⟩:=XE (l++k);rw [← Gr.o] at Jd ⊢;obtain⟨u,Gb⟩:=XE (w.setCell ⟨p,9,none⟩ (.int .i64 (n+k.length)));have Z:Hid (zb [p] w u):=qI (by rw [Gb.o];exact (zb.refl _ w).setCell (.inl Wz) _);have Gp:Hid (yx u p s (.slice H l.length G) (n+k.length)):=qI (by rw [Gb.o];exact HH.o.putN _);have Jn:Hid (zm u (.slice H l.length G) l):=qI (B.kept Z.o (fun g m=>by simpa using N g m));have Gh:Hid (zm u (.slice W k.length cb) k):=qI (D.kept Z.o (fun g m=>by simpa using L g m));have Gi:Hid (kg u):=qI (t.keptX Z.o (by simpa using Ne.symm M));have Jo:Hid (p<u.heap.size):=qI Gp.o.lt;have Gs:Hid (w.heap.size≤u.heap.size):=qI Z.o.size;clear B N D L t M P hl Q ae HB Jj Gn Jl Jm;go_enter func145,ntmps145;go_upto_region 5 with fail;rw [← Gb.o];clear x9 y9;have x8:=Gp.o.c.2.2.2.2.2.2.2.2.1;rcases VD l.length with h0 | h0
 case' inl=>have e0:Hid (J=k):=qI (by rw [Gr.o,Xh h0];rfl);have ag:(l.length:Int)≤0:=Ws;clear h0;go_wp2_with fail;have Je:Hid (WRel u p (.slice H l.length G) (n+k.length) s J (.slice W k.length cb) u):=qI ⟨⟨_,_,k,s,rfl,Gh.o,Jk.o,Gp.o,by rw [e0.o],by rw [e0.o];exact XA⟩,Wd⟩
 case' inr=>
  have ag:(0:Int)<l.length:=Ws;have E:Row (u.alloc (.cells #[.slice H l.length G,.slice W k.length cb] 32)) u.heap.size 0 [.slice H l.length G,.slice W k.length cb]:=JM u _ _;have C:=(zb.refl [] u).alloc (.cells #[.slice H l.length G,.slice W k.length cb] 32);have CC:=qI (concat2 u.heap.size 2 _ _ l k _ E (Jn.o.k0 C) (Gh.o.k0 C) (by have:=HL.o;have:=Jc.o;unfold lim;omega));rw [← Gr.o] at CC;have Gt:=qI C;clear E C;go_wp2_with (go_at_call 187;refine CC.o.mono ?_;rintro e w2 ⟨v2,rfl,y,af⟩;obtain⟨a2,c2,rfl,-,-⟩:=y.1.form;have F:=qI y;have Gf:=qI af;clear y af x8);have Je:Hid (WRel u p (.slice H l.length G) (n+k.length) s J (.slice a2 J.length c2) w2):=qI ⟨⟨_,_,J,s,rfl,F.o.1,fun g m=>by
   have h1:=(F.o.2 g m).1;have h2:=Jo.o;have h3:=Gt.o.size;omega,(Gp.o.kept Gt.o Wz).kept Gf.o Wz,rfl,XA⟩,((Gt.o.then Gf.o).mono Wz)⟩
 all_goals
  go_loopw [5] (fun x wr=>WRel u p (.slice H l.length G) (n+k.length) s J x wr) (fun x _=>sliceLen x);case atStart=>exact Je.o
  case round=>
   obtain⟨⟨a,c,rest,q,rfl,B,N,U,he,Y⟩,O⟩:=hrel;have X:(rest.length:Int)≤200000000000:=by have:=Jd.o;have:=HL.o;have:=Jc.o;omega
   rcases Xr rest.length 64 with h64 | h64
   ·have R:(rest.length:Int)<64:=by omega
    have CL:=qI (bg _ rest wr B (by unfold lim;omega));have Jp:=qI U;have Jq:=qI O;have HE:Hid (vN q rest=(q,rest)):=qI (ZJ q rest h64);have Jr:=qI he;have Gu:=qI (Gi.o.keptX O (by simpa using Ne.symm Gq.o));have Js:=qI U.lt;have Gv:=qI O.size;clear B N U he O Y h64 X;go_wp2_with fail;refine CL.o.mono ?_;rintro e w3 ⟨v3,rfl,y,A⟩;obtain⟨a3,c3,rfl,-,-⟩:=y.1.form;have F:=qI y;have Gd:=qI A;have Gw:=qI (Jp.o.kept A Wz);have y8:=Gw.o.c.2.2.2.2.2.2.2.2.1;have z8:=zh (o:=8) Gw.o;clear y A;go_wp2;go_ret;have ad:∀ g,yt (.slice a3 rest.length c3)=some g→g≠p:=fun g m=>by have h1:=(F.o.2 g m).1;have h2:=Js.o;omega
    have t:zb [p] w3 (w3.setCell ⟨p,8,none⟩ (.slice a3 rest.length c3)):=Wd.setCell (.inl Wz) _;have ee:vN s J=(q,rest):=by rw [← Jr.o,HE.o]
    refine⟨rfl,?_⟩;rw [ee]
    exact⟨⟨_,Gw.o.putV _,F.o.1.kept t (fun g m=>by simpa using ad g m),fun g m=>⟨X7 Gs.o (X7 Gv.o (F.o.2 g m).1),(t.kind (F.o.1.lt m) (by simpa using ad g m)).trans (F.o.2 g m).2⟩⟩,
     ((Z.o.trans' Jq.o).then Gd.o).trans' t,(Gu.o.k0 Gd.o).keptX t (by simpa using Ne.symm Gq.o)⟩
   ·have R:(64:Int)≤rest.length:=by omega
    have u2:=B.head 64 h64;have aj:(rest.length:Int)≤c:=XC B.capL;go_upto_region 8 with fail;refine yG (n:=53) 10 [fI (.pointer (some ⟨p,0,none⟩)),fI (.pointer (some ⟨p,0,none⟩)),fI (.pointer (some ⟨p,0,none⟩)),fI (.pointer (some ⟨p,0,none⟩)),fI (S8.agg q),fI (.slice a rest.length c),fI (.slice a 64 c),fI (S8.agg (jM q (rest.take 64))),fI (.pointer (some ⟨p,0,none⟩)),fI (.pointer (some ⟨p,0,none⟩))] Wr rfl Wr (fun x=>qB) ?_ ?_
    ·refine⟨fun x w' i b hd=>?_,fun x w' i b hd=>?_,fun x w' i b hd=>?_,fun x w' i b hd=>?_,fun x w' i b hd=>?_,fun x w' i b hd=>?_,fun x w' i b hd=>?_,fun x w' i b hd=>?_,fun x w' i b hd=>?_,fun x w' i b hd=>?_,trivial⟩;·exact zi
     ·exact zi
     ·have K:x 1=_:=hd 1 Wr;exact zi
     ·have K:x 2=_:=hd 2 Wr;exact zi
     ·have K:x 3=_:=hd 3 Wr;obtain⟨y0,y1,y2,y3,y4,y5,y6,y7,-,-⟩:=(U.kept i Wz).c;exact zi
     ·exact zi
     ·have K:x 5=_:=hd 5 Wr;exact zi
     ·have K:x 4 = .agg #[.int .u32 q.a,.int .u32 q.b,.int .u32 q.c,.int .u32 q.d,.int .u32 q.e,.int .u32 q.f,.int .u32 q.g,.int .u32 q.h]:=hd 4 Wr;have d2:x 6=_:=hd 6 Wr;have CB:=block_any w' q a c (rest.take 64) (by rw [Xe];omega) (u2.k0 i) ((Gi.o.keptX O (by simpa using Ne.symm Gq.o)).k0 i);go_wp2_with fail;refine CB.mono ?_;rintro e w3 ⟨rfl,A⟩;have Gd:=qI A;clear A;go_wp2;exact⟨rfl,Gd.o⟩
     ·have K:x 0=_:=hd 0 Wr;exact zi
     ·have K:x 8=_:=hd 8 Wr;exact zi
    ·intro x w' i b hd ai;have K:x 9=_:=hd 9 Wo;have d2:=hd 7 Wo;obtain⟨r,hr⟩:=XE (jM q (rest.take 64));rw [← hr.o] at d2;have d2:x 7 = .agg #[.int .u32 r.a,.int .u32 r.b,.int .u32 r.c,.int .u32 r.d,.int .u32 r.e,.int .u32 r.f,.int .u32 r.g,.int .u32 r.h]:=d2;have I:=U.kept i Wz;obtain⟨y0,y1,y2,y3,y4,y5,y6,y7,-,-⟩:=I.c;have z:∀ j,w'.frozen? ⟨p,j,none⟩=false:=fun j=>zh I
     change wpList _ _ _ [_] _ _;go_wp2_with fail;have aa:zb [p] w' (putS w' p r):=putS_kept _ _ _;have ht:=B.tail 64 h64;refine⟨⟨⟨_,_,rest.drop 64,r,by rw [XW],by rw [XW];exact (ht.1.k0 i).kept aa (fun g m=>by simpa using N g (ht.2 g m)),fun g m=>N g (ht.2 g (by rw [XW] at m;exact m)),I.putS r,by rw [hr.o,← QO q rest h64];exact he,by rw [XW];omega⟩,(O.then i).trans' aa⟩,by simp only [sliceLen];omega⟩
theorem YZ:∀ (k:Nat) (s:S8) (a b:List UInt8),a.length≤k→vN s (a++b)=vN (vN s a).1 ((vN s a).2++b)
 | 0,s,a,b,h=>by have:a=[]:=Xh Ws;subst this;rw [ZJ s [] Wz]
 | k+1,s,a,b,h=>by
  rcases Xr a.length 64 with h64 | h64;·rw [ZJ s a h64]
  ·rw [QO s (a++b) (by simp;omega),QO s a h64,List.take_append_of_le_length h64,List.drop_append_of_le_length h64];exact YZ k _ _ _ (by simp;omega)
def padL (r m:Nat):List UInt8:=[128]++(List.replicate ((119-r)%64) 0++j8 (8*m) 8)
def S8.get (s:S8)(j:Nat):Int:=s.list.getD j 0
def outB (s:S8)(i:Nat):UInt8:=UInt8.ofNat ((s.get (i/4))/2 ^ (24-8*(i%4))%256).toNat
def QV (s:S8):List UInt8:=(List.range 32).map (outB s)
theorem Qd (s:S8):(QV s).length=32:=by simp [QV]
def qj (l:List UInt8):List UInt8:=QV (vN zX (l++padL (l.length%64) l.length)).1
theorem yP (l:List UInt8):(qj l).length=32:=Qd _
theorem bv_outB (s:S8)(i:Nat):bv (outB s i) = .int .u8 ((s.get (i/4))/2 ^ (24-8*(i%4))%256):=by
 rw [outB,zcc];congr 1;omega
def ku (s:S8)(k:Nat):List UInt8:=(List.range 32).map (fun i=>if i<k then outB s i else 0)
theorem yp (s:S8)(k:Nat):(ku s k).length=32:=by simp [ku]
theorem outK_all (s:S8):ku s 32=QV s:=by
 apply un;intro i a;rw [XK (ur.1 a)]
theorem outK_set (s:S8)(k:Nat)(b:k<32):((ku s k).map bv).toArray.setIfInBounds k (.int .u8 ((s.get (k/4))/2 ^ (24-8*(k%4))%256))=((ku s (k+1)).map bv).toArray:=by
 rw [← bv_outB,VK];congr 1;apply uZ;·simp [ku]
 ·intro i a h2;rw [List.getElem_set];by_cases e:k=i;·subst e;simp [ku]
  ·rw [XJ e];simp only [ku,uJ,List.getElem_range];congr 1;by_cases h:i<k;·rw [XK h,XK Ws]
   ·rw [XJ h,XJ Ws]
theorem yx.st (h:yx w p s v n)(j:Nat)(e:j<8):w.cell? ⟨p,j,none⟩=some (.int .u32 (s.get j)):=by
 obtain⟨k,b,i,a,l,d,m,f,-,-⟩:=h.c;obtain rfl | rfl | rfl | rfl | rfl | rfl | rfl | rfl:j=0∨j=1∨j=2∨j=3∨j=4∨j=5∨j=6∨j=7:=Ws;all_goals assumption
def z32:Array Value:=#[.int .u8 0,.int .u8 0,.int .u8 0,.int .u8 0,.int .u8 0,.int .u8 0,.int .u8 0,.int .u8 0,.int .u8 0,.int .u8 0,.int .u8 0,.int .u8 0,.int .u8 0,.int .u8 0,.int .u8 0,.int .u8 0,.int .u8 0,.int .u8 0,.int .u8 0,.int .u8 0,.int .u8 0,.int .u8 0,.int .u8 0,.int .u8 0,.int .u8 0,.int .u8 0,.int .u8 0,.int .u8 0,.int .u8 0,.int .u8 0,.int .u8 0,.int .u8 0]
def yr (w:World)(g:Nat)(l:List UInt8):Prop:=w.heap[g]? = some (.cells (l.map bv).toArray 49 (0,0))
theorem yr.range {g:Nat}(h:yr w g l):w.rangeAt g 0 (l.map bv):=fun j v hv=>by
 rw [Xd];exact za h (by simpa using hv)
theorem yr.there {w:World}{g:Nat}{l:List UInt8}(h:yr w g l)(n:Nat)(b:l.length=n):w.there g 0 n:=fun j a=>by
 rw [Xd];exact⟨by rw [za (v:=bv (l[j]'(Ws))) h (by rw [uB,Xs,XN Ws];rfl)];rfl,zh h⟩
theorem yr.lt {g:Nat}(h:yr w g l):g<w.heap.size:=lt_of_block h
theorem yr.put {g:Nat}{l':List UInt8}(h:yr w g l)(j:l'.length=l.length):yr (w.setCells g 0 (l'.map bv)) g l':=by
 obtain⟨b,k,h2,h3⟩:=qN g (l'.map bv) 0 w _ h;have e:b=(l'.map bv).toArray:=by
  apply Array.ext;·rw [h2];simp [j]
  ·intro i a m;have f:i<l.length:=by rw [h2] at a;simpa using a
   have d:=h3 i (by simpa using f);rw [XK (by simp;omega),uh a] at d;rw [Nat.sub_zero,XN (by simp;omega)] at d;rw [Option.some.inj d];simp
 unfold yr;rw [k,e]
theorem ja:(Tryz.prog.info? 49).map (·.size)=some 32:=Wr
theorem one32 (l:List UInt8):(l.map bv).toArray.all (·.oneCell')=true:=all_oneCell_toArray (qr l)
theorem K9 (h:kg w):0<w.heap.size:=World.block_lt_of_cell? w _ (h 0 _ rfl)
theorem sum_any (w:World)(p:Nat)(s:S8)(v:Value)(l:List UInt8)(m:Nat)(h:yx w p s v m)(hb:zm w v l)(hl:l.length<64)(hm:m≤100000000000)(X:kg w) : zG w 146 #[.pointer (some ⟨p,0,none⟩)] (.agg ((QV (vN s (l++padL l.length m)).1).map bv).toArray):=by
 have HH:=qI h;have HB:=qI hb;have Gn:=qI X;have HM:=qI hm;have af:(l.length:Int)<64:=Ws;have HL:=qI hl;clear h hb X hm hl;go_enter func146,ntmps146;go_upto_region 4 with fail;change Code.wp _ _ _ _ ((w.alloc (.cells z32 49)).alloc (.cells z32 49));obtain⟨E,L⟩:=XE ((w.alloc (.cells z32 49)).alloc (.cells z32 49));have Ga:Hid (zb [] w E):=qI (kA2 L.o);have Jt:Hid (yr E w.heap.size (ku s 0)):=qI (by rw [L.o];exact ((zb.refl [] _).alloc _).heap (zd rfl) Wz);have Ju:Hid (yr E (w.heap.size+1) (ku s 0)):=qI (by rw [L.o];exact zd Wz);have Jv:Hid (E.heap.size=w.heap.size+2):=qI (by rw [L.o];simp);rw [← L.o];have CF:=qI (fork_any E p s v l m (HH.o.kept Ga.o Wz) (HB.o.k0 Ga.o) (by have:=HL.o;unfold lim;omega));obtain⟨z,HZ⟩:=XE ((119 - l.length)%64);have O:z<64:=by rw [HZ.o];omega
 have ez:((119-(l.length:Int))%64)=(z:Int):=by rw [HZ.o];omega
 have ab:∀ W:World,(Instr.makeSlice 32 (.int .i64 z) (.int .i64 z)).run prog W = .ok (.slice (some ⟨W.heap.size,0,none⟩) z z) (W.alloc (.cells (madeCells #[.int .u8 0] z) 5)):=fun W=>run_makeB W z (by unfold lim;omega);have CP:Hid (∀ W:World,Calls prog 96 #[.int .i64 (8*(m:Int)),.int .i64 8] W fun e w'=>∃ v,e = .returned (.tuple #[v,.int .i64 0])∧qw W w' v (j8 (8*m) 8)∧zb [] W w'):=qI fun W=>by
  have j:=Kk (8*m) 8 W Wo Wo (.inl rfl)
  rwa [show ((8*m:Nat):Int)=8*(m:Int) by omega] at j
 have ae:(m:Int)≤100000000000:=XC HM.o;go_upto_region 6 with (go_at_call 189;refine CF.o.mono ?_;rintro e w2 ⟨q,v',rfl,hq,x,A,F,aa⟩;obtain⟨av,cv,rfl,-,-⟩:=A.form;have HQ:=qI hq;have Gx:=qI x;have Jw:=qI A;have Jx:=qI F;have Gf:=qI aa;have x8:=x.c.2.2.2.2.2.2.2.2.1;clear hq x A F aa);have x9:=((HH.o.kept Ga.o Wz).kept Gf.o Wz).c.2.2.2.2.2.2.2.2.2;have ad:wrap64 (8*(m:Int))=8*(m:Int):=by unfold wrap64;omega
 clear x8;go_upto_region 7 with (go_at_call 96;refine (CP.o _).mono ?_;rintro e a ⟨v3,rfl,b,U⟩;obtain⟨a3,c3,rfl,-,-⟩:=b.1.form;rw [xy] at b ⊢;have Gy:=qI b;have H:=qI U;clear b U x9);obtain⟨f,G⟩:=XE ((a.alloc (.cells #[.int .u8 128] 5)).alloc (.cells (madeCells #[.int .u8 0] z) 5));have D:Hid (zb [] a f):=qI (kA2 G.o);have Jy:Hid (zm f (.slice (some ⟨a.heap.size,0,none⟩) 1 1) [128]):=qI (by rw [G.o];exact (bR a (bv 128) _ _ rfl).k0 ((zb.refl [] _).alloc _));have Gz:Hid (zm f (.slice (some ⟨a.heap.size+1,0,none⟩) z z) (List.replicate z 0)):=qI (by
  have j:=Slc.of_row (zeros_own (a.alloc (.cells #[.int .u8 128] 5)) 0 z (by unfold lim;omega) (XB));rw [G.o];have e1:(a.alloc (.cells #[.int .u8 128] 5)).heap.size=a.heap.size+1:=Wz;rw [e1] at j;unfold zm;rw [List.length_replicate];exact j)
 have Jz:Hid (zm f (.slice a3 8 c3) (j8 (8*m) 8)):=qI (Gy.o.1.k0 D.o);have Ma:Hid (f.heap.size=a.heap.size+2):=qI (by rw [G.o];simp);obtain⟨u,Ja⟩:=XE (f.alloc (.cells #[.slice (some ⟨a.heap.size,0,none⟩) 1 1,.slice (some ⟨a.heap.size+1,0,none⟩) z z,.slice a3 8 c3] 32));have r:Hid (zb [] f u):=qI (kA1 Ja.o);have CC:Hid (Calls prog 187 #[.slice (some ⟨a.heap.size+1+1,0,none⟩) 3 3] u fun e w'=>∃ v',e = .returned v'∧qw u w' v' (padL l.length m)∧zb [] u w'):=qI (by
  have I:Row u f.heap.size 0 [.slice (some ⟨a.heap.size,0,none⟩) 1 1,.slice (some ⟨a.heap.size+1,0,none⟩) z z,.slice a3 8 c3]:=by rw [Ja.o];exact JM f _ _
  have j:=concat3 f.heap.size 3 _ _ _ [128] (List.replicate z 0) (j8 (8*m) 8) u I (Jy.o.k0 r.o) (Gz.o.k0 r.o) (Jz.o.k0 r.o) (by rw [xy];simp [lim];omega);rw [Ma.o] at j;rw [HZ.o] at j;exact j)
 have ag:Hid ((padL l.length m).length=9+z):=qI (by simp [padL,xy,HZ.o];omega);obtain⟨R,HR⟩:=XE (vN s (l++padL l.length m));have Jf:Hid (zb [] w u):=qI (((Ga.o.then Gf.o).then H.o).then (D.o.then r.o));have Gk:Hid (w.heap.size+2≤q):=qI (XH HQ.o Jv.o);have Mb:=qI (K9 Gn.o);go_upto_region 8 with first
  | (go_at_call 187;rw [← G.o,← Ja.o];refine CC.o.mono ?_;rintro e w6 ⟨v6,rfl,d,Z⟩;obtain⟨a6,c6,rfl,-,-⟩:=d.1.form;have Gl:=qI d;have Q:=qI Z;clear d Z)
  | (go_at_call 145;refine (J7 w6 q s (.slice av l.length cv) (.slice a6 (padL l.length m).length c6) l (padL l.length m) m (Gx.o.kept (((H.o.then D.o).then r.o).then Q.o) Wz) (Jw.o.k0 (((H.o.then D.o).then r.o).then Q.o)) (fun g hg=>?_) Gl.o.1 (fun g hg=>?_) (Nat.le_of_lt HL.o) (by rw [ag.o];omega) Ws (XC HM.o) (Gn.o.k0 (Jf.o.then Q.o)) (XH Mb.o Gk.o)).mono ?_)
 ·exact xP (Jx.o g hg).2 Gx.o.kd Wo
 ·have j:=(Gl.o.2 g hg).1;have h2:=Gx.o.lt;have h3:=((H.o.then D.o).then r.o).size;omega
 rintro e w7 ⟨rfl,t⟩;rw [← HR.o] at t;obtain⟨⟨v7,J,-,-⟩,B,-⟩:=t;have Mc:=qI J;have Md:Hid (zb [] w w7):=qI ((Jf.o.then Q.o).trans B (by intro i Y;simp at Y;subst Y;exact .inr (XC Gk.o)));have Jg:Hid (zb [q] E w7):=qI (((Gf.o.then H.o).then ((D.o.then r.o).then Q.o)).mono Wz |>.trans' B);have Me:Hid (yr w7 (w.heap.size+1) (ku R.1 0)):=qI (Jg.o.heap Ju.o (by have:=Gk.o;simp;omega));have Mf:Hid (yr w7 w.heap.size (ku R.1 0)):=qI (Jg.o.heap Jt.o (by have:=Gk.o;simp;omega));clear J B ab ez O;go_wp2_with fail;go_loopw [38] (fun i wr=>∃ k:Nat,i = .int .i64 k∧k≤32∧yr wr (w.heap.size+1) (ku R.1 k)∧yr wr w.heap.size (ku R.1 0)∧yx wr q R.1 v7 (m+(padL l.length m).length)∧zb [] w wr) (fun i _=>32-(intOf i).toNat);case atStart=>exact⟨0,rfl,XB,Me.o,Mf.o,Mc.o,Md.o⟩
 case round=>
  obtain⟨k,rfl,hk,K,hr,hh,y⟩:=hrel;have HO:=qI K;have Jb:=qI hr;have Mg:=qI hh;have Jh:=qI y;rcases Xr k 32 with h32 | h32
  ·have ah:(k:Int)<32:=by omega
   have c0:=hh.st (k/4) Ws;have o0:=za (o:=k) (v:=bv ((ku R.1 k)[k]'(by rw [yp];exact h32))) K (by rw [uB,Xs,XN (by rw [yp];exact h32)];rfl);have f0:=zh (o:=k) K;clear K hr hh y;go_wp2;case roundEnd=>have M:zb [w.heap.size+1] wr (wr.setCell ⟨w.heap.size+1,k,none⟩ (.int .u8 (R.1.get (k/4)/2 ^ (24-8*(k%4))%256))):=Wd.setCell (.inl Wz) _;exact⟨⟨k+1,by go_num,Ws,ze HO.o (outK_set R.1 k h32),M.heap Jb.o Wz,Mg.o.kept M (by have:=Gk.o;simp;omega),Jh.o.setCell (.inr Wz) _⟩,by simp [intOf];omega⟩
  ·obtain rfl:k=32:=by omega
   clear K hr hh y ae ad af;rw [outK_all] at HO;have N:((QV R.1).map bv).toArray.size=32:=by simp [Qd]
   go_upto_region 13 with fail;refine wp_region_list ?_;change wpList _ _ _ [_,_] _ _;refine wpList_load_mid Wk 49 (.tmp 3) Wk (w.heap.size+1) 0 Wk ((QV R.1).map bv) _ HO.o.range underlying49 rfl (by rw [Xb,Qd];exact ja) ?_;refine wpList_store_mid Wk 49 (.tmp 2) (.tmp 57) Wk w.heap.size 0 ((QV R.1).map bv).toArray Wk Wk (by rw [N];exact Jb.o.there 32 (yp _ _)) (by rw [N];exact ja) (one32 _) ?_;have hF:Hid (yr (wr.setCells w.heap.size 0 ((QV R.1).map bv)) w.heap.size (QV R.1)):=qI (Jb.o.put (by rw [Qd,yp]));have C:Hid (zb [] w (wr.setCells w.heap.size 0 ((QV R.1).map bv))):=qI (Jh.o.trans (yO w.heap.size ((QV R.1).map bv) 0 wr) (by intro i Y;simp at Y;subst Y;exact .inr (XA)));revert hF C;show _→_→wpList _ _ _ _ _ (wr.setCells w.heap.size 0 ((QV R.1).map bv));generalize wr.setCells w.heap.size 0 ((QV R.1).map bv)=WF;intro hF C;have n:=run_loadVar_mid (P:=prog) WF w.heap.size 0 49 ((QV R.1).map bv) _ hF.o.range underlying49 rfl (by rw [Xb,Qd];exact ja);rw [HR.o] at n;try simp only [XI]
   go_wp2;exact bodyPost_ret (v:=.agg ((QV (vN s (l++padL l.length m)).1).map bv).toArray) (by simp only [results,results146];simp [n,Sem.run_bind,asAddr]) rfl ⟨rfl,C.o⟩
end Go.Proofs.YtjccecajigmfkaaGreatDoor

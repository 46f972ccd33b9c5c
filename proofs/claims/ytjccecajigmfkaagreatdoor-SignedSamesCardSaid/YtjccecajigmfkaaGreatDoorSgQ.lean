/- Parts of one proof, merged: XJD XJE XJF XJG XJH XJI. -/
import Derived.Test.YtjccecajigmfkaaGreatDoorSgP
set_option linter.all false
set_option maxHeartbeats 12800000
set_option maxRecDepth 10000
namespace Go.Proofs.YtjccecajigmfkaaGreatDoor
open Go.Proofs.Tryz
open Go.RowKit
variable {Q:Exit→Act→World→Prop}{X:List Nat}{a:Option Addr}{l:List UInt8}{n:Int}{op:Oper}{ops:Array Oper}{p:Nat}{rest:List Oper}{v:Value}{w w':World}
def ya:S8:=⟨1779033703,3144134277,1013904242,2773480762,1359893119,2600822924,528734635,1541459225⟩
def hashC (s:S8)(v:Value)(n:Int):Array Value:=#[.int .u32 s.a,.int .u32 s.b,.int .u32 s.c,.int .u32 s.d,.int .u32 s.e,.int .u32 s.f,.int .u32 s.g,.int .u32 s.h,v,.int .i64 n]
def yD (w:World)(p:Nat)(s:S8)(v:Value)(n:Int):Prop:=w.heap[p]? = some (.cells (hashC s v n) 224 (0,0))
theorem yD.kept {s:S8}(h:yD w p s v n)(k:zb X w w')(hp:p ∉ X):yD w' p s v n:=k.heap h hp
theorem start_any (w:World):zJ w 186 #[] (.agg #[.int .u32 ya.a,.int .u32 ya.b,.int .u32 ya.c,.int .u32 ya.d,.int .u32 ya.e,.int .u32 ya.f,.int .u32 ya.g,.int .u32 ya.h]):=by
 go_enter func186,ntmps186;go_wp2;exact bodyPost_ret (v:=.agg #[.int .u32 ya.a,.int .u32 ya.b,.int .u32 ya.c,.int .u32 ya.d,.int .u32 ya.e,.int .u32 ya.f,.int .u32 ya.g,.int .u32 ya.h]) (by simp [results,results186,go_sem,ya]) rfl ⟨rfl,Wd.alloc _⟩
theorem new_any (w:World):Calls prog 144 #[] w fun e w'=>∃ p,e = .returned (.pointer (some ⟨p,0,none⟩))∧w.heap.size≤p∧yD w' p ya (.slice none 0 0) 0∧zb [] w w':=by
 have d:=qI (start_any w);go_enter func144,ntmps144;go_wp2_with fail;refine d.o.mono ?_;rintro e f ⟨rfl,a⟩;have b:=qI a;clear a;go_wp2;go_ret;exact⟨f.heap.size,rfl,b.o.size,ze rfl,b.o.alloc _⟩
def putB (n sz i:Nat):UInt8:=UInt8.ofNat (n/2 ^ (8*(sz-1-i)))
def jN (n sz:Nat):List UInt8:=(List.range sz).map (putB n sz)
theorem xB (n a:Nat):(jN n a).length=a:=by simp [jN]
theorem zaG (m:Nat):bv (UInt8.ofNat m) = .int .u8 ((m:Int)%256):=by
 simp [bv,UInt8.toNat_ofNat]
def zbG (n sz k:Nat):List UInt8:=(List.range sz).map (fun i=>if i<k then putB n sz i else 0)
theorem putK_zero (n a:Nat):zbG n a 0=List.replicate a 0:=by
 apply List.ext_getElem;·simp [zbG]
 ·intro i b h2;simp [zbG]
theorem putK_all (n a:Nat):zbG n a a=jN n a:=by
 apply List.map_congr_left;intro i b;rw [if_pos (List.mem_range.1 b)]
theorem putK_set (n a k:Nat)(d:k<a):((zbG n a k).map bv).set k (.int .u8 ((n:Int)/2 ^ (8*(a-1-k))%256))=(zbG n a (k+1)).map bv:=by
 have b:Value.int .u8 ((n:Int)/2 ^ (8*(a-1-k))%256)=bv (putB n a k):=by rw [putB,zaG];simp
 rw [b];apply List.ext_getElem;·simp [zbG]
 ·intro i f h2;rw [List.getElem_set];by_cases e:k=i;·subst e;simp [zbG]
  ·rw [if_neg e];simp only [zbG,List.getElem_map,List.getElem_range];congr 1;by_cases h:i<k;·rw [if_pos h,if_pos Ws]
   ·rw [if_neg h,if_neg Ws]
theorem run_makeB (W:World)(n:Nat)(a:n≤lim):(Instr.makeSlice 32 (.int .i64 n) (.int .i64 n)).run prog W = .ok (.slice (some ⟨W.heap.size,0,none⟩) n n) (W.alloc (.cells (madeCells #[.int .u8 0] n) 5)):=by
 obtain⟨i,e,d,f,b⟩:=info_parts vC.info;have:=run_make (P:=prog) W 32 5 i (.int .u8 0) underlying32 e d .i64 .i64 n n Ws Ws (by rw [b];unfold lim at a;omega) (by unfold lim at a;omega);rw [f] at this;simpa [Value.cells] using this
theorem zeros_list (n:Nat):(madeCells #[.int .u8 0] n).toList=(List.replicate n (0:UInt8)).map bv:=by
 rw [toList_madeCells_one,List.map_replicate];rfl
theorem zeros_own (W:World)(base n:Nat)(b:n≤lim)(a:base≤W.heap.size):(W.alloc (.cells (madeCells #[.int .u8 0] n) 5)).ownsRow base 5 1 (.slice (some ⟨W.heap.size,0,none⟩) n n) n ((List.replicate n (0:UInt8)).map bv):=by
 rw [← zeros_list];exact World.ownsRow_lit W (madeCells #[.int .u8 0] n) n a (by simp only [maxLen];unfold lim at b;omega) (by simp [size_madeCells])
theorem QZ (n b:Nat)(w:World)(J:1≤b)(A:b≤8)(s:b=8∨n<2 ^ (8*b)):Calls prog 96 #[.int .i64 n,.int .i64 b] w fun e w'=>∃ a c,e = .returned (.tuple #[.slice a b c,.int .i64 0])∧w'.ownsRow w.heap.size 5 1 (.slice a b c) b ((jN n b).map bv)∧zb [] w w':=by
 have p:=fun W=>run_makeB W b (by unfold lim;omega);have f:=qI (zeros_own w w.heap.size b (by unfold lim;omega) (XA));have D:(1:Int)≤b:=Ws;have t:(b:Int)≤8:=Ws;have C:=qI s;obtain⟨z,q⟩:=XE (w.alloc (.cells (madeCells #[.int .u8 0] b) 5));have y:Hid (zb [] w z):=qI (kA1 q.o);rw [← q.o] at f;clear s;rcases Nat.lt_or_ge b 8 with h8 | h8
 case' inr=>have m:(8:Int)≤b:=Ws
 case' inl=>have m:(b:Int)<8:=Ws;have I:((n:Int)/2 ^ (8*b) != 0)=false:=by have F:n/2 ^ (8*b)=0:=Nat.div_eq_of_lt (C.o.resolve_left Ws);have h2:((n:Int)/2 ^ (8*b))=((n/2 ^ (8*b):Nat):Int):=Wz;rw [h2,F];rfl
 all_goals
  go_enter func96,ntmps96;go_wp2_with fail;rw [← q.o];go_loopw [33] (fun i wr=>∃ k:Nat,i = .int .i64 k∧k≤b∧wr.ownsRow w.heap.size 5 1 (.slice (some ⟨w.heap.size,0,none⟩) b b) b ((zbG n b k).map bv)∧zb [] w wr) (fun i _=>b-(intOf i).toNat);case atStart=>exact⟨0,rfl,XB,by rw [putK_zero];exact f.o,y.o⟩
  case round=>
   obtain⟨k,rfl,H,d,j⟩:=hrel;have h:=qI d;have u:=qI j;by_cases B:k<b
   ·have x:(k:Int)<b:=by omega
    have hc:=d.cellAt k Ws;have G:=d.frozenAt k;obtain⟨v,E⟩:∃ v,wr.cell? ⟨w.heap.size,k,none⟩=some v:=by refine⟨_,hc.trans (List.getElem?_eq_getElem ?_)⟩;simp [zbG];omega
    clear hc d j p;go_wp2;case roundEnd=>have l:=(h.o.stored k (.int .u8 ((n:Int)/2 ^ (8*(b-1-k))%256))).1;rw [putK_set n b k B] at l;exact⟨⟨k+1,by go_num,Ws,l,u.o.setCell Wz _⟩,by simp [intOf];omega⟩
   ·obtain rfl:k=b:=by omega
    clear d j;go_wp2;go_ret2;have r:=h.o;rw [putK_all] at r;exact⟨_,_,rfl,r,u.o⟩
theorem QN (n a:Nat)(w:World)(f:1≤a)(b:a≤8)(d:a=8∨n<2 ^ (8*a)):Calls prog 96 #[.int .i64 n,.int .i64 a] w fun e w'=>∃ v,e = .returned (.tuple #[v,.int .i64 0])∧qs w w' v (jN n a)∧zb [] w w':=
 (QZ n a w f b d).mono fun _ _ ⟨_,_,h1,h2,h3⟩=>⟨_,h1,kQ h2,h3⟩
theorem yD.lt {s:S8}(h:yD w p s v n):p<w.heap.size:=by
 unfold yD at h;exact (Array.getElem?_eq_some_iff.1 h).1
theorem yD.c {s:S8}(h:yD w p s v n):w.cell? ⟨p,0,none⟩=some (.int .u32 s.a)∧w.cell? ⟨p,1,none⟩=some (.int .u32 s.b)∧w.cell? ⟨p,2,none⟩=some (.int .u32 s.c)∧w.cell? ⟨p,3,none⟩=some (.int .u32 s.d)∧w.cell? ⟨p,4,none⟩=some (.int .u32 s.e)∧w.cell? ⟨p,5,none⟩=some (.int .u32 s.f)∧w.cell? ⟨p,6,none⟩=some (.int .u32 s.g)∧w.cell? ⟨p,7,none⟩=some (.int .u32 s.h)∧w.cell? ⟨p,8,none⟩=some v∧w.cell? ⟨p,9,none⟩=some (.int .i64 n):=
 ⟨za h rfl,za h rfl,za h rfl,za h rfl,za h rfl,za h rfl,za h rfl,za h rfl,za h rfl,za h rfl⟩
theorem yD.kd {s:S8}(h:yD w p s v n):kind w p=224+2:=zU h
theorem fork_any (w:World)(p:Nat)(s:S8)(v:Value)(l:List UInt8)(n:Int)(h:yD w p s v n)(B:zp w v l)(I:l.length≤lim):Calls prog 189 #[.pointer (some ⟨p,0,none⟩)] w fun e w'=>∃ q v',e = .returned (.pointer (some ⟨q,0,none⟩))∧w.heap.size≤q∧yD w' q s v' n∧zp w' v' l∧(∀ g,yx v'=some g→w.heap.size≤g∧kind w' g=5+2)∧zb [] w w':=by
 have P:=qI h;have M:=qI B;have L:=qI I;clear h B I;go_enter func189,ntmps189;go_wp2_with fail;refine zt (n:=16) (fun w':World=>yD w' p s v n∧zp w' v l∧zb [] w w') 15 Wr Wr ?_;change zS _ _ _ _ _ _ _ _ _ w.drew;have a:(fun w':World=>yD w' p s v n∧zp w' v l∧zb [] w w') w.drew:=⟨P.o.kept (zb.refl [] w).drew Wz,M.o.k0 (zb.refl [] w).drew,(zb.refl [] w).drew⟩;revert a;generalize w.drew=W2;intro a;refine zF ?_;intro O R f y;have d:kI R:=by subst y;exact fun _ _ _ _ _ h=>h
 refine qT 0 ?_ f rfl rfl Wr d (fun w b=>?_) a ?_;rotate_left;·exact zg
 try simp only [XI]
 refine qT 1 ?_ f rfl rfl Wr d (fun w b=>?_) a ?_;rotate_left;·exact zg
 try simp only [XI]
 refine qT 2 ?_ f rfl rfl Wr d (fun w b=>?_) a ?_;rotate_left;·exact zg
 try simp only [XI]
 refine qT 3 ?_ f rfl rfl Wr d (fun w b=>?_) a ?_;rotate_left;·obtain⟨x,C,H,A,F,z,E,G,J,D⟩:=b.1.c;exact zg
 try simp only [XI]
 refine qT 4 ?_ f rfl rfl Wr d (fun w b=>?_) a ?_;rotate_left;·exact zg
 try simp only [XI]
 refine qT 5 ?_ f rfl rfl Wr d (fun w b=>?_) a ?_;rotate_left;·exact zg
 try simp only [XI]
 refine qT 6 ?_ f rfl rfl Wr d (fun w b=>?_) a ?_;rotate_left;·exact zg
 try simp only [XI]
 refine qT 7 ?_ f rfl rfl Wr d (fun w b=>?_) a ?_;rotate_left;·obtain⟨x,C,H,A,F,z,E,G,J,D⟩:=b.1.c;exact zg
 try simp only [XI]
 refine qT 9 ?_ f rfl rfl Wr d (fun w b=>?_) a ?_;rotate_left;·exact zg
 try simp only [XI]
 refine qT 10 ?_ f rfl rfl Wr d (fun w b=>?_) a ?_;rotate_left;·exact zg
 try simp only [XI]
 refine qT 11 ?_ f rfl rfl Wr d (fun w b=>?_) a ?_;rotate_left;·exact zg
 try simp only [XI]
 refine qT 12 ?_ f rfl rfl Wr d (fun w b=>?_) a ?_;rotate_left;·obtain⟨x,C,H,A,F,z,E,G,J,D⟩:=b.1.c;exact zg
 try simp only [XI]
 refine qO 8 f rfl Wr (fun K i=>?_);go_simp;refine Calls.mono (bj v l W2 a.2.1 L.o) ?_;rintro e t ⟨v',rfl,m,k⟩;obtain⟨Q,U,rfl,-,-⟩:=m.1.form;have j:(fun w':World=>yD w' p s v n∧zp w' v l∧zb [] w w') t:=⟨a.1.kept k Wz,a.2.1.k0 k,a.2.2.then k⟩;have r:=qI m;have N:Hid (w.heap.size≤W2.heap.size):=qI a.2.2.size;clear m;refine i _ _ (.inr j) ?_;clear i K;try simp only [XI]
 clear a;have a:=j;clear j;refine qT 13 ?_ f rfl rfl Wr d (fun w b=>?_) a ?_;rotate_left;·exact zg
 try simp only [XI]
 refine qO 14 f rfl Wr (fun K i=>?_);go_simp;refine i _ _ (.inr ⟨a.1.kept ((zb.refl [] _).alloc _) Wz,a.2.1.k0 ((zb.refl [] _).alloc _),a.2.2.alloc _⟩) ?_;clear i K;try simp only [XI]
 refine qO 15 f rfl Wr (fun K i=>?_);go_simp;refine i _ _ (.inl rfl) ?_;clear i K;try simp only [XI]
 refine zz f Wr ?_ _;subst y;try clear d f O
 go_wp2;go_ret;exact⟨t.heap.size,rfl,a.2.2.size,_,ze rfl,r.o.1.k0 ((zb.refl [] t).alloc _),fun g u=>⟨Nat.le_trans N.o (r.o.2 g u).1,(((zb.refl [] t).alloc _).kind (r.o.1.lt u) Wz).trans (r.o.2 g u).2⟩,a.2.2.alloc _⟩
def zas:Nat→S8→List UInt8→S8×List UInt8
 | 0,s,l=>(s,l)
 | k+1,s,l=>if 64≤l.length then zas k (jt s (l.take 64)) (l.drop 64) else (s,l)
def vG (s:S8)(l:List UInt8):S8×List UInt8:=zas l.length s l
theorem YD:∀ (k:Nat) (s:S8) (l:List UInt8),l.length≤k→zas k s l=zas l.length s l
 | 0,s,l,h=>by have:l=[]:=List.eq_nil_of_length_eq_zero Ws;subst this;rfl
 | k+1,s,l,h=>by
  by_cases a:64≤l.length;·obtain⟨m,hm⟩:∃ m,l.length=m+1:=⟨l.length - 1,Ws⟩;rw [hm];simp only [zas];rw [if_pos a,if_pos a,YD k _ _ (by simp;omega),YD m _ _ (by simp;omega)]
  ·obtain h0 | ⟨m,hm⟩:l.length=0∨∃ m,l.length=m+1:=by
    cases b:l.length with
    | zero=>exact .inl rfl
    | succ m=>exact .inr ⟨m,rfl⟩
   ·rw [h0];simp only [zas];rw [if_neg a]
   ·rw [hm];simp only [zas];rw [if_neg a,if_neg a]
theorem Qf (s:S8)(l:List UInt8)(h:64≤l.length):vG s l=vG (jt s (l.take 64)) (l.drop 64):=by
 unfold vG;obtain⟨m,hm⟩:∃ m,l.length=m+1:=⟨l.length - 1,Ws⟩;rw [hm];simp only [zas];rw [if_pos h,YD m _ _ (by simp;omega)]
theorem Zf (s:S8)(l:List UInt8)(h:l.length<64):vG s l=(s,l):=by
 unfold vG;cases a:l.length with
 | zero=>rfl
 | succ m=>simp only [zas];rw [if_neg Ws]
theorem KU (s:S8)(l:List UInt8):(vG s l).2.length<64:=by
 unfold vG;suffices h:∀ (k:Nat) (s:S8) (l:List UInt8),l.length≤k→(zas k s l).2.length<64 from h _ s l (XA);intro k;induction k with
 | zero=>intro s l h;simp only [zas];omega
 | succ k ih=>
  intro s l h;simp only [zas];split;·exact ih _ _ (by simp;omega)
  ·simp only;omega
def sliceLen:Value→Nat
 | .slice _ n _=>n
 | _=>0
def S8.agg (s:S8):Value:=.agg #[.int .u32 s.a,.int .u32 s.b,.int .u32 s.c,.int .u32 s.d,.int .u32 s.e,.int .u32 s.f,.int .u32 s.g,.int .u32 s.h]
def putS (w:World)(p:Nat)(r:S8):World:=(((((((w.setCell ⟨p,0,none⟩ (.int .u32 r.a)).setCell ⟨p,1,none⟩ (.int .u32 r.b)).setCell ⟨p,2,none⟩ (.int .u32 r.c)).setCell ⟨p,3,none⟩ (.int .u32 r.d)).setCell ⟨p,4,none⟩ (.int .u32 r.e)).setCell ⟨p,5,none⟩ (.int .u32 r.f)).setCell ⟨p,6,none⟩ (.int .u32 r.g)).setCell ⟨p,7,none⟩ (.int .u32 r.h)
theorem putS_kept (w:World)(p:Nat)(r:S8):zb [p] w (putS w p r):=by
 unfold putS;exact ((((((((zb.refl [p] w).setCell (.inl Wz) _).setCell (.inl Wz) _).setCell (.inl Wz) _).setCell (.inl Wz) _).setCell (.inl Wz) _).setCell (.inl Wz) _).setCell (.inl Wz) _).setCell (.inl Wz) _
theorem yD.putS {w:World}{p:Nat}{s:S8}{v:Value}{n:Int}(h:yD w p s v n)(r:S8):yD (putS w p r) p r v n:=by
 unfold yD hashC at h ⊢;unfold Go.Proofs.YtjccecajigmfkaaGreatDoor.putS;have q:=zd (i:=0) (v:=.int .u32 r.a) (d:=#[.int .u32 r.a,.int .u32 s.b,.int .u32 s.c,.int .u32 s.d,.int .u32 s.e,.int .u32 s.f,.int .u32 s.g,.int .u32 s.h,v,.int .i64 n]) h rfl;have h2:=zd (i:=1) (v:=.int .u32 r.b) (d:=#[.int .u32 r.a,.int .u32 r.b,.int .u32 s.c,.int .u32 s.d,.int .u32 s.e,.int .u32 s.f,.int .u32 s.g,.int .u32 s.h,v,.int .i64 n]) q rfl;have h3:=zd (i:=2) (v:=.int .u32 r.c) (d:=#[.int .u32 r.a,.int .u32 r.b,.int .u32 r.c,.int .u32 s.d,.int .u32 s.e,.int .u32 s.f,.int .u32 s.g,.int .u32 s.h,v,.int .i64 n]) h2 rfl;have l:=zd (i:=3) (v:=.int .u32 r.d) (d:=#[.int .u32 r.a,.int .u32 r.b,.int .u32 r.c,.int .u32 r.d,.int .u32 s.e,.int .u32 s.f,.int .u32 s.g,.int .u32 s.h,v,.int .i64 n]) h3 rfl;have j:=zd (i:=4) (v:=.int .u32 r.e) (d:=#[.int .u32 r.a,.int .u32 r.b,.int .u32 r.c,.int .u32 r.d,.int .u32 r.e,.int .u32 s.f,.int .u32 s.g,.int .u32 s.h,v,.int .i64 n]) l rfl;have h6:=zd (i:=5) (v:=.int .u32 r.f) (d:=#[.int .u32 r.a,.int .u32 r.b,.int .u32 r.c,.int .u32 r.d,.int .u32 r.e,.int .u32 r.f,.int .u32 s.g,.int .u32 s.h,v,.int .i64 n]) j rfl;have m:=zd (i:=6) (v:=.int .u32 r.g) (d:=#[.int .u32 r.a,.int .u32 r.b,.int .u32 r.c,.int .u32 r.d,.int .u32 r.e,.int .u32 r.f,.int .u32 r.g,.int .u32 s.h,v,.int .i64 n]) h6 rfl;have k:=zd (i:=7) (v:=.int .u32 r.h) (d:=#[.int .u32 r.a,.int .u32 r.b,.int .u32 r.c,.int .u32 r.d,.int .u32 r.e,.int .u32 r.f,.int .u32 r.g,.int .u32 r.h,v,.int .i64 n]) m rfl;exact k
theorem yD.putV {s:S8}(h:yD w p s v n)(u:Value):yD (w.setCell ⟨p,8,none⟩ u) p s u n:=zd (d:=hashC s u n) h rfl
theorem yD.putN {s:S8}(h:yD w p s v n)(m:Int):yD (w.setCell ⟨p,9,none⟩ (.int .i64 m)) p s v m:=zd (d:=hashC s v m) h rfl
theorem qK.keptX (h:qK w)(k:zb X w w')(a:0 ∉ X):qK w':=fun j v hv=>k.cell (h j v hv) a
structure Wrote (w w':World)(p:Nat)(s:S8)(l:List UInt8)(n:Int):Prop where
 hash:∃ v',yD w' p s v' n∧zp w' v' l∧∀ g,yx v'=some g→w.heap.size≤g∧kind w' g=5+2
 kept:zb [p] w w'
 ks:qK w'
theorem zp.head {c:Nat}(h:zp w (.slice a l.length c) l)(k:Nat)(i:k≤l.length):zp w (.slice a k c) (l.take k):=by
 have e:(l.take k).length=k:=by rw [List.length_take];omega
 unfold zp;rw [e];refine⟨by simp;omega,?_⟩;rcases h.2 with ⟨b,f⟩ | ⟨f,j,cap,b,hm⟩ | ⟨g,o,cap,b,h2,h3,d⟩
 ·simp only [Value.slice.injEq] at b;obtain⟨rfl,-,rfl⟩:=b;obtain rfl:k=0:=Ws;exact .inl ⟨rfl,rfl⟩
 ·simp only [Value.slice.injEq] at b;obtain⟨rfl,-,rfl⟩:=b;obtain rfl:k=0:=Ws;exact .inr (.inl ⟨rfl,_,_,rfl,hm⟩)
 ·simp only [Value.slice.injEq] at b;obtain⟨rfl,-,rfl⟩:=b;refine .inr (.inr ⟨g,o,_,rfl,Ws,h3,?_⟩);rw [List.map_take];exact d.take k
theorem zp.tail {c:Nat}(h:zp w (.slice a l.length c) l)(k:Nat)(t:k≤l.length):zp w (.slice (if c=k then a else a.map fun x=>⟨x.block,x.off+k,none⟩) (l.length-k) (c-k)) (l.drop k)∧∀ g,yx (.slice (if c=k then a else a.map fun x=>⟨x.block,x.off+k,none⟩) (l.length-k) (c-k))=some g→yx (.slice a l.length c)=some g:=by
 have e:(l.drop k).length=l.length-k:=List.length_drop;unfold zp;rw [e];rcases h.2 with ⟨b,f⟩ | ⟨f,s,cap,b,hm⟩ | ⟨g,o,cap,b,h2,h3,p⟩
 ·simp only [Value.slice.injEq] at b;obtain⟨rfl,-,rfl⟩:=b;obtain rfl:k=0:=Ws;rw [f];exact⟨⟨by simp [f],.inl ⟨rfl,rfl⟩⟩,by simp [yx]⟩
 ·simp only [Value.slice.injEq] at b;obtain⟨rfl,-,rfl⟩:=b;obtain rfl:k=0:=Ws;rw [f];refine⟨⟨by simp [f],?_⟩,by intro g n;split at n <;> simp [yx] at n⟩;split;·exact .inr (.inl ⟨rfl,_,_,rfl,Ws⟩)
  ·exact .inr (.inl ⟨rfl,_,_,rfl,Ws⟩)
 ·simp only [Value.slice.injEq] at b;obtain⟨rfl,-,rfl⟩:=b;refine⟨⟨Wz,.inr (.inr ?_)⟩,fun q j=>?_⟩
  ·by_cases hc:c=k
   ·rw [if_pos hc];have r:l.length-k=0:=Ws;exact⟨g,o,_,rfl,Ws,Ws,⟨by
     have:(l.drop k).map bv=[]:=by rw [List.map_eq_nil_iff];exact List.eq_nil_of_length_eq_zero (by rw [e,r])
     rw [this];simp,p.lt⟩⟩
   ·rw [if_neg hc];refine⟨g,o+k,_,rfl,Ws,Ws,?_⟩;rw [List.map_drop];exact p.drop k
  ·obtain⟨m,d⟩:=vj j;have i:q=g:=by split at d <;> simpa [Value.ownBlock,eq_comm] using d
   subst i;exact ZK Ws
theorem zp.capL {c n:Nat}(h:zp w (.slice a n c) l):n≤c:=by
 obtain⟨d,e,b,h2,-⟩:=h.form;simp only [Value.slice.injEq] at b;obtain⟨-,h3,rfl⟩:=b;omega
structure WRel (W1:World)(p:Nat)(v:Value)(n:Int)(s0:S8)(l0:List UInt8)(x:Value)(wr:World):Prop where
 some_:∃ a c rest s',x = .slice a rest.length c∧zp wr (.slice a rest.length c) rest∧(∀ g,yx (.slice a rest.length c)=some g→g≠p)∧yD wr p s' v n∧vG s' rest=vG s0 l0∧rest.length≤l0.length
 kept:zb [p] W1 wr
theorem JI (w:World)(p:Nat)(s:S8)(v b:Value)(l k:List UInt8)(n:Int)(h:yD w p s v n)(B:zp w v l)(I:∀ g,yx v=some g→g≠p)(D:zp w b k)(N:∀ g,yx b=some g→g≠p)(aa:l.length≤64)(hl:k.length≤100000000000)(U:0≤n)(ad:n≤100000000000)(t:qK w)(J:p≠0) : Calls prog 145 #[.pointer (some ⟨p,0,none⟩),b] w fun e w'=>e = .returned (.int .i64 k.length)∧Wrote w w' p (vG s (l++k)).1 (vG s (l++k)).2 (n+k.length):=by
 obtain⟨G,H,rfl,-,-⟩:=B.form;obtain⟨P,cb,rfl,-,-⟩:=D.form;have HH:=qI h;have HB:=qI B;have Ju:=qI D;have HX:=qI I;have Jv:=qI N;have Gk:=qI t;have Ja:=qI J;have Jm:=qI aa;have HL:=qI hl;have W:(k.length:Int)≤100000000000:=Ws;have ah:(l.length:Int)≤64:=Ws;have x9:=h.c.2.2.2.2.2.2.2.2.2;have y9:=zh (o:=9) h;have Jw:=qI ad;have Jx:=qI U;have ai:wrap64 (n+k.length)=n+k.length:=by unfold wrap64;omega
 have Jn:Hid ((l++k).length=l.length+k.length):=qI List.length_append;obtain⟨K,Jb⟩:=XE (l++k);rw [← Jb.o] at Jn ⊢;obtain⟨u,Gb⟩:=XE (w.setCell ⟨p,9,none⟩ (.int .i64 (n+k.length)));have Q:Hid (zb [p] w u):=qI (by rw [Gb.o];exact (zb.refl _ w).setCell (.inl Wz) _);have Gw:Hid (yD u p s (.slice G l.length H) (n+k.length)):=qI (by rw [Gb.o];exact HH.o.putN _);have Jy:Hid (zp u (.slice G l.length H) l):=qI (B.kept Q.o (fun g m=>by simpa using I g m));have Gl:Hid (zp u (.slice P k.length cb) k):=qI (D.kept Q.o (fun g m=>by simpa using N g m));have Gm:Hid (qK u):=qI (t.keptX Q.o (by simpa using Ne.symm J));have Jz:Hid (p<u.heap.size):=qI Gw.o.lt;have Jc:Hid (w.heap.size≤u.heap.size):=qI Q.o.size;clear B I D N t J aa hl ad U HB Ju Gk Jw Jx;go_enter func145,ntmps145;go_upto_region 5 with fail;rw [← Gb.o];clear x9 y9;have x8:=Gw.o.c.2.2.2.2.2.2.2.2.1;rcases Nat.eq_zero_or_pos l.length with h0 | h0
 case' inl=>have e0:Hid (K=k):=qI (by rw [Jb.o,List.eq_nil_of_length_eq_zero h0];rfl);have af:(l.length:Int)≤0:=Ws;clear h0;go_wp2_with fail;have Jo:Hid (WRel u p (.slice G l.length H) (n+k.length) s K (.slice P k.length cb) u):=qI ⟨⟨_,_,k,s,rfl,Gl.o,Jv.o,Gw.o,by rw [e0.o],by rw [e0.o];exact XA⟩,Wd⟩
 case' inr=>
  have af:(0:Int)<l.length:=Ws;have F:Row (u.alloc (.cells #[.slice G l.length H,.slice P k.length cb] 32)) u.heap.size 0 [.slice G l.length H,.slice P k.length cb]:=Kv u _ _;have C:=(zb.refl [] u).alloc (.cells #[.slice G l.length H,.slice P k.length cb] 32);have CC:=qI (concat2 u.heap.size 2 _ _ l k _ F (Jy.o.k0 C) (Gl.o.k0 C) (by have:=HL.o;have:=Jm.o;unfold lim;omega));rw [← Jb.o] at CC;have Jd:=qI C;clear F C;go_wp2_with (go_at_call 187;refine CC.o.mono ?_;rintro e w2 ⟨v2,rfl,y,Z⟩;obtain⟨a2,c2,rfl,-,-⟩:=y.1.form;have E:=qI y;have Gd:=qI Z;clear y Z x8);have Jo:Hid (WRel u p (.slice G l.length H) (n+k.length) s K (.slice a2 K.length c2) w2):=qI ⟨⟨_,_,K,s,rfl,E.o.1,fun g m=>by
   have h1:=(E.o.2 g m).1;have h2:=Jz.o;have h3:=Jd.o.size;omega,(Gw.o.kept Jd.o Wz).kept Gd.o Wz,rfl,XA⟩,((Jd.o.then Gd.o).mono Wz)⟩
 all_goals
  go_loopw [5] (fun x wr=>WRel u p (.slice G l.length H) (n+k.length) s K x wr) (fun x _=>sliceLen x);case atStart=>exact Jo.o
  case round=>
   obtain⟨⟨a,c,rest,q,rfl,B,I,hh,he,R⟩,O⟩:=hrel;have W:(rest.length:Int)≤200000000000:=by have:=Jn.o;have:=HL.o;have:=Jm.o;omega
   rcases Nat.lt_or_ge rest.length 64 with h64 | h64
   ·have Y:(rest.length:Int)<64:=by omega
    have CL:=qI (bj _ rest wr B (by unfold lim;omega));have Ma:=qI hh;have Mb:=qI O;have HE:Hid (vG q rest=(q,rest)):=qI (Zf q rest h64);have Mc:=qI he;have Gg:=qI (Gm.o.keptX O (by simpa using Ne.symm Ja.o));have Md:=qI hh.lt;have Je:=qI O.size;clear B I hh he O R h64 W;go_wp2_with fail;refine CL.o.mono ?_;rintro e w3 ⟨v3,rfl,y,A⟩;obtain⟨a3,c3,rfl,-,-⟩:=y.1.form;have E:=qI y;have Ge:=qI A;have Jf:=qI (Ma.o.kept A Wz);have y8:=Jf.o.c.2.2.2.2.2.2.2.2.1;have z8:=zh (o:=8) Jf.o;clear y A;go_wp2;go_ret;have ae:∀ g,yx (.slice a3 rest.length c3)=some g→g≠p:=fun g m=>by have h1:=(E.o.2 g m).1;have h2:=Md.o;omega
    have t:zb [p] w3 (w3.setCell ⟨p,8,none⟩ (.slice a3 rest.length c3)):=Wd.setCell (.inl Wz) _;have ee:vG s K=(q,rest):=by rw [← Mc.o,HE.o]
    refine⟨rfl,?_⟩;rw [ee]
    exact⟨⟨_,Jf.o.putV _,E.o.1.kept t (fun g m=>by simpa using ae g m),fun g m=>⟨Nat.le_trans Jc.o (Nat.le_trans Je.o (E.o.2 g m).1),(t.kind (E.o.1.lt m) (by simpa using ae g m)).trans (E.o.2 g m).2⟩⟩,
     ((Q.o.trans' Mb.o).then Ge.o).trans' t,(Gg.o.k0 Ge.o).keptX t (by simpa using Ne.symm Ja.o)⟩
   ·have Y:(64:Int)≤rest.length:=by omega
    have u2:=B.head 64 h64;have aj:(rest.length:Int)≤c:=XC B.capL;go_upto_region 8 with fail;refine yz (n:=53) 10 [fI (.pointer (some ⟨p,0,none⟩)),fI (.pointer (some ⟨p,0,none⟩)),fI (.pointer (some ⟨p,0,none⟩)),fI (.pointer (some ⟨p,0,none⟩)),fI (S8.agg q),fI (.slice a rest.length c),fI (.slice a 64 c),fI (S8.agg (jt q (rest.take 64))),fI (.pointer (some ⟨p,0,none⟩)),fI (.pointer (some ⟨p,0,none⟩))] Wr rfl Wr (fun x=>qm) ?_ ?_
    ·refine⟨fun x w' i b hd=>?_,fun x w' i b hd=>?_,fun x w' i b hd=>?_,fun x w' i b hd=>?_,fun x w' i b hd=>?_,fun x w' i b hd=>?_,fun x w' i b hd=>?_,fun x w' i b hd=>?_,fun x w' i b hd=>?_,fun x w' i b hd=>?_,trivial⟩;·exact zi
     ·exact zi
     ·have L:x 1=_:=hd 1 Wr;exact zi
     ·have L:x 2=_:=hd 2 Wr;exact zi
     ·have L:x 3=_:=hd 3 Wr;obtain⟨y0,y1,y2,y3,y4,y5,y6,y7,-,-⟩:=(hh.kept i Wz).c;exact zi
     ·exact zi
     ·have L:x 5=_:=hd 5 Wr;exact zi
     ·have L:x 4 = .agg #[.int .u32 q.a,.int .u32 q.b,.int .u32 q.c,.int .u32 q.d,.int .u32 q.e,.int .u32 q.f,.int .u32 q.g,.int .u32 q.h]:=hd 4 Wr;have d2:x 6=_:=hd 6 Wr;have CB:=block_any w' q a c (rest.take 64) (by rw [List.length_take];omega) (u2.k0 i) ((Gm.o.keptX O (by simpa using Ne.symm Ja.o)).k0 i);go_wp2_with fail;refine CB.mono ?_;rintro e w3 ⟨rfl,A⟩;have Ge:=qI A;clear A;go_wp2;exact⟨rfl,Ge.o⟩
     ·have L:x 0=_:=hd 0 Wr;exact zi
     ·have L:x 8=_:=hd 8 Wr;exact zi
    ·intro x w' i b hd ag;have L:x 9=_:=hd 9 Wo;have d2:=hd 7 Wo;obtain⟨r,hr⟩:=XE (jt q (rest.take 64));rw [← hr.o] at d2;have d2:x 7 = .agg #[.int .u32 r.a,.int .u32 r.b,.int .u32 r.c,.int .u32 r.d,.int .u32 r.e,.int .u32 r.f,.int .u32 r.g,.int .u32 r.h]:=d2;have M:=hh.kept i Wz;obtain⟨y0,y1,y2,y3,y4,y5,y6,y7,-,-⟩:=M.c;have z:∀ j,w'.frozen? ⟨p,j,none⟩=false:=fun j=>zh M
     change wpList _ _ _ [_] _ _;go_wp2_with fail;have X:zb [p] w' (putS w' p r):=putS_kept _ _ _;have ht:=B.tail 64 h64;refine⟨⟨⟨_,_,rest.drop 64,r,by rw [List.length_drop],by rw [List.length_drop];exact (ht.1.k0 i).kept X (fun g m=>by simpa using I g (ht.2 g m)),fun g m=>I g (ht.2 g (by rw [List.length_drop] at m;exact m)),M.putS r,by rw [hr.o,← Qf q rest h64];exact he,by rw [List.length_drop];omega⟩,(O.then i).trans' X⟩,by simp only [sliceLen];omega⟩
theorem Y5:∀ (k:Nat) (s:S8) (a b:List UInt8),a.length≤k→vG s (a++b)=vG (vG s a).1 ((vG s a).2++b)
 | 0,s,a,b,h=>by have:a=[]:=List.eq_nil_of_length_eq_zero Ws;subst this;rw [Zf s [] Wz]
 | k+1,s,a,b,h=>by
  rcases Nat.lt_or_ge a.length 64 with h64 | h64;·rw [Zf s a h64]
  ·rw [Qf s (a++b) (by simp;omega),Qf s a h64,List.take_append_of_le_length h64,List.drop_append_of_le_length h64];exact Y5 k _ _ _ (by simp;omega)
def padL (r m:Nat):List UInt8:=[128]++(List.replicate ((119-r)%64) 0++jN (8*m) 8)
def S8.get (s:S8)(j:Nat):Int:=s.list.getD j 0
def outB (s:S8)(i:Nat):UInt8:=UInt8.ofNat ((s.get (i/4))/2 ^ (24-8*(i%4))%256).toNat
def Qu (s:S8):List UInt8:=(List.range 32).map (outB s)
theorem Y8 (s:S8):(Qu s).length=32:=by simp [Qu]
def qe (l:List UInt8):List UInt8:=Qu (vG ya (l++padL (l.length%64) l.length)).1
theorem yK (l:List UInt8):(qe l).length=32:=Y8 _
theorem bv_outB (s:S8)(i:Nat):bv (outB s i) = .int .u8 ((s.get (i/4))/2 ^ (24-8*(i%4))%256):=by
 rw [outB,zaG];congr 1;omega
def qS (s:S8)(k:Nat):List UInt8:=(List.range 32).map (fun i=>if i<k then outB s i else 0)
theorem yu (s:S8)(k:Nat):(qS s k).length=32:=by simp [qS]
theorem outK_all (s:S8):qS s 32=Qu s:=by
 apply List.map_congr_left;intro i a;rw [if_pos (List.mem_range.1 a)]
theorem outK_set (s:S8)(k:Nat)(a:k<32):((qS s k).map bv).toArray.setIfInBounds k (.int .u8 ((s.get (k/4))/2 ^ (24-8*(k%4))%256))=((qS s (k+1)).map bv).toArray:=by
 rw [← bv_outB,List.setIfInBounds_toArray];congr 1;apply List.ext_getElem;·simp [qS]
 ·intro i b h2;rw [List.getElem_set];by_cases e:k=i;·subst e;simp [qS]
  ·rw [if_neg e];simp only [qS,List.getElem_map,List.getElem_range];congr 1;by_cases h:i<k;·rw [if_pos h,if_pos Ws]
   ·rw [if_neg h,if_neg Ws]
theorem yD.st {s:S8}(h:yD w p s v n)(j:Nat)(l:j<8):w.cell? ⟨p,j,none⟩=some (.int .u32 (s.get j)):=by
 obtain⟨m,f,a,i,d,b,k,e,-,-⟩:=h.c;obtain rfl | rfl | rfl | rfl | rfl | rfl | rfl | rfl:j=0∨j=1∨j=2∨j=3∨j=4∨j=5∨j=6∨j=7:=Ws;all_goals assumption
def z32:Array Value:=#[.int .u8 0,.int .u8 0,.int .u8 0,.int .u8 0,.int .u8 0,.int .u8 0,.int .u8 0,.int .u8 0,.int .u8 0,.int .u8 0,.int .u8 0,.int .u8 0,.int .u8 0,.int .u8 0,.int .u8 0,.int .u8 0,.int .u8 0,.int .u8 0,.int .u8 0,.int .u8 0,.int .u8 0,.int .u8 0,.int .u8 0,.int .u8 0,.int .u8 0,.int .u8 0,.int .u8 0,.int .u8 0,.int .u8 0,.int .u8 0,.int .u8 0,.int .u8 0]
def yy (w:World)(g:Nat)(l:List UInt8):Prop:=w.heap[g]? = some (.cells (l.map bv).toArray 49 (0,0))
theorem yy.range {g:Nat}(h:yy w g l):w.rangeAt g 0 (l.map bv):=fun j v hv=>by
 rw [Nat.zero_add];exact za h (by simpa using hv)
theorem yy.there {w:World}{g:Nat}{l:List UInt8}(h:yy w g l)(n:Nat)(a:l.length=n):w.there g 0 n:=fun j b=>by
 rw [Nat.zero_add];exact⟨by rw [za (v:=bv (l[j]'(Ws))) h (by rw [List.getElem?_toArray,List.getElem?_map,List.getElem?_eq_getElem Ws];rfl)];rfl,zh h⟩
theorem yy.lt {g:Nat}(h:yy w g l):g<w.heap.size:=lt_of_block h
theorem yy.put {g:Nat}{l':List UInt8}(h:yy w g l)(k:l'.length=l.length):yy (w.setCells g 0 (l'.map bv)) g l':=by
 obtain⟨b,m,h2,h3⟩:=qC g (l'.map bv) 0 w _ h;have e:b=(l'.map bv).toArray:=by
  apply Array.ext;·rw [h2];simp [k]
  ·intro i a j;have f:i<l.length:=by rw [h2] at a;simpa using a
   have d:=h3 i (by simpa using f);rw [if_pos (by simp;omega),Array.getElem?_eq_getElem a] at d;rw [Nat.sub_zero,List.getElem?_eq_getElem (by simp;omega)] at d;rw [Option.some.inj d];simp
 unfold yy;rw [m,e]
theorem kG:(Tryz.prog.info? 49).map (·.size)=some 32:=Wr
theorem one32 (l:List UInt8):(l.map bv).toArray.all (·.oneCell')=true:=all_oneCell_toArray (qE l)
theorem KG (h:qK w):0<w.heap.size:=World.block_lt_of_cell? w _ (h 0 _ rfl)
theorem sum_any (w:World)(p:Nat)(s:S8)(v:Value)(l:List UInt8)(m:Nat)(h:yD w p s v m)(hb:zp w v l)(hl:l.length<64)(hm:m≤100000000000)(O:qK w) : zJ w 146 #[.pointer (some ⟨p,0,none⟩)] (.agg ((Qu (vG s (l++padL l.length m)).1).map bv).toArray):=by
 have HH:=qI h;have HB:=qI hb;have Gk:=qI O;have HM:=qI hm;have ae:(l.length:Int)<64:=Ws;have HL:=qI hl;clear h hb O hm hl;go_enter func146,ntmps146;go_upto_region 4 with fail;change Code.wp _ _ _ _ ((w.alloc (.cells z32 49)).alloc (.cells z32 49));obtain⟨D,Gb⟩:=XE ((w.alloc (.cells z32 49)).alloc (.cells z32 49));have Ga:Hid (zb [] w D):=qI (kA2 Gb.o);have Gx:Hid (yy D w.heap.size (qS s 0)):=qI (by rw [Gb.o];exact ((zb.refl [] _).alloc _).heap (ze rfl) Wz);have Me:Hid (yy D (w.heap.size+1) (qS s 0)):=qI (by rw [Gb.o];exact ze Wz);have Mf:Hid (D.heap.size=w.heap.size+2):=qI (by rw [Gb.o];simp);rw [← Gb.o];have CF:=qI (fork_any D p s v l m (HH.o.kept Ga.o Wz) (HB.o.k0 Ga.o) (by have:=HL.o;unfold lim;omega));obtain⟨z,HZ⟩:=XE ((119 - l.length)%64);have Z:z<64:=by rw [HZ.o];omega
 have ez:((119-(l.length:Int))%64)=(z:Int):=by rw [HZ.o];omega
 have ad:∀ W:World,(Instr.makeSlice 32 (.int .i64 z) (.int .i64 z)).run prog W = .ok (.slice (some ⟨W.heap.size,0,none⟩) z z) (W.alloc (.cells (madeCells #[.int .u8 0] z) 5)):=fun W=>run_makeB W z (by unfold lim;omega);have CP:Hid (∀ W:World,Calls prog 96 #[.int .i64 (8*(m:Int)),.int .i64 8] W fun e w'=>∃ v,e = .returned (.tuple #[v,.int .i64 0])∧qs W w' v (jN (8*m) 8)∧zb [] W w'):=qI fun W=>by
  have j:=QN (8*m) 8 W Wo Wo (.inl rfl)
  rwa [show ((8*m:Nat):Int)=8*(m:Int) by omega] at j
 have aa:(m:Int)≤100000000000:=XC HM.o;go_upto_region 6 with (go_at_call 189;refine CF.o.mono ?_;rintro e w2 ⟨q,v',rfl,hq,C,A,G,U⟩;obtain⟨av,cv,rfl,-,-⟩:=A.form;have HQ:=qI hq;have Gn:=qI C;have Mg:=qI A;have Mh:=qI G;have Gd:=qI U;have x8:=C.c.2.2.2.2.2.2.2.2.1;clear hq C A G U);have x9:=((HH.o.kept Ga.o Wz).kept Gd.o Wz).c.2.2.2.2.2.2.2.2.2;have af:wrap64 (8*(m:Int))=8*(m:Int):=by unfold wrap64;omega
 clear x8;go_upto_region 7 with (go_at_call 96;refine (CP.o _).mono ?_;rintro e a ⟨v3,rfl,b,X⟩;obtain⟨a3,c3,rfl,-,-⟩:=b.1.form;rw [xB] at b ⊢;have Jg:=qI b;have Q:=qI X;clear b X x9);obtain⟨f,I⟩:=XE ((a.alloc (.cells #[.int .u8 128] 5)).alloc (.cells (madeCells #[.int .u8 0] z) 5));have E:Hid (zb [] a f):=qI (kA2 I.o);have Mi:Hid (zp f (.slice (some ⟨a.heap.size,0,none⟩) 1 1) [128]):=qI (by rw [I.o];exact (ZV a (bv 128) _ _ rfl).k0 ((zb.refl [] _).alloc _));have Jh:Hid (zp f (.slice (some ⟨a.heap.size+1,0,none⟩) z z) (List.replicate z 0)):=qI (by
  have j:=Slc.of_row (zeros_own (a.alloc (.cells #[.int .u8 128] 5)) 0 z (by unfold lim;omega) (XB));rw [I.o];have e1:(a.alloc (.cells #[.int .u8 128] 5)).heap.size=a.heap.size+1:=Wz;rw [e1] at j;unfold zp;rw [List.length_replicate];exact j)
 have Mj:Hid (zp f (.slice a3 8 c3) (jN (8*m) 8)):=qI (Jg.o.1.k0 E.o);have Mk:Hid (f.heap.size=a.heap.size+2):=qI (by rw [I.o];simp);obtain⟨u,Ji⟩:=XE (f.alloc (.cells #[.slice (some ⟨a.heap.size,0,none⟩) 1 1,.slice (some ⟨a.heap.size+1,0,none⟩) z z,.slice a3 8 c3] 32));have t:Hid (zb [] f u):=qI (kA1 Ji.o);have CC:Hid (Calls prog 187 #[.slice (some ⟨a.heap.size+1+1,0,none⟩) 3 3] u fun e w'=>∃ v',e = .returned v'∧qs u w' v' (padL l.length m)∧zb [] u w'):=qI (by
  have H:Row u f.heap.size 0 [.slice (some ⟨a.heap.size,0,none⟩) 1 1,.slice (some ⟨a.heap.size+1,0,none⟩) z z,.slice a3 8 c3]:=by rw [Ji.o];exact Kv f _ _
  have j:=concat3 f.heap.size 3 _ _ _ [128] (List.replicate z 0) (jN (8*m) 8) u H (Mi.o.k0 t.o) (Jh.o.k0 t.o) (Mj.o.k0 t.o) (by rw [xB];simp [lim];omega);rw [Mk.o] at j;rw [HZ.o] at j;exact j)
 have ab:Hid ((padL l.length m).length=9+z):=qI (by simp [padL,xB,HZ.o];omega);obtain⟨R,HR⟩:=XE (vG s (l++padL l.length m));have Jp:Hid (zb [] w u):=qI (((Ga.o.then Gd.o).then Q.o).then (E.o.then t.o));have Y:Hid (w.heap.size+2≤q):=qI (XH HQ.o Mf.o);have Jj:=qI (KG Gk.o);go_upto_region 8 with first
  | (go_at_call 187;rw [← I.o,← Ji.o];refine CC.o.mono ?_;rintro e w6 ⟨v6,rfl,d,N⟩;obtain⟨a6,c6,rfl,-,-⟩:=d.1.form;have Gr:=qI d;have Gs:=qI N;clear d N)
  | (go_at_call 145;refine (JI w6 q s (.slice av l.length cv) (.slice a6 (padL l.length m).length c6) l (padL l.length m) m (Gn.o.kept (((Q.o.then E.o).then t.o).then Gs.o) Wz) (Mg.o.k0 (((Q.o.then E.o).then t.o).then Gs.o)) (fun g hg=>?_) Gr.o.1 (fun g hg=>?_) (Nat.le_of_lt HL.o) (by rw [ab.o];omega) Ws (XC HM.o) (Gk.o.k0 (Jp.o.then Gs.o)) (XH Jj.o Y.o)).mono ?_)
 ·exact xM (Mh.o g hg).2 Gn.o.kd Wo
 ·have j:=(Gr.o.2 g hg).1;have h2:=Gn.o.lt;have h3:=((Q.o.then E.o).then t.o).size;omega
 rintro e w7 ⟨rfl,r⟩;rw [← HR.o] at r;obtain⟨⟨v7,M,-,-⟩,x,-⟩:=r;have Ml:=qI M;have Mm:Hid (zb [] w w7):=qI ((Jp.o.then Gs.o).trans x (by intro i L;simp at L;subst L;exact .inr (XC Y.o)));have Jq:Hid (zb [q] D w7):=qI (((Gd.o.then Q.o).then ((E.o.then t.o).then Gs.o)).mono Wz |>.trans' x);have Mn:Hid (yy w7 (w.heap.size+1) (qS R.1 0)):=qI (Jq.o.heap Me.o (by have:=Y.o;simp;omega));have Mo:Hid (yy w7 w.heap.size (qS R.1 0)):=qI (Jq.o.heap Gx.o (by have:=Y.o;simp;omega));clear M x ad ez Z;go_wp2_with fail;go_loopw [38] (fun i wr=>∃ k:Nat,i = .int .i64 k∧k≤32∧yy wr (w.heap.size+1) (qS R.1 k)∧yy wr w.heap.size (qS R.1 0)∧yD wr q R.1 v7 (m+(padL l.length m).length)∧zb [] w wr) (fun i _=>32-(intOf i).toNat);case atStart=>exact⟨0,rfl,XB,Mn.o,Mo.o,Ml.o,Mm.o⟩
 case round=>
  obtain⟨k,rfl,hk,K,hr,hh,B⟩:=hrel;have HO:=qI K;have Jk:=qI hr;have Mp:=qI hh;have Gi:=qI B;rcases Nat.lt_or_ge k 32 with h32 | h32
  ·have ag:(k:Int)<32:=by omega
   have c0:=hh.st (k/4) Ws;have o0:=za (o:=k) (v:=bv ((qS R.1 k)[k]'(by rw [yu];exact h32))) K (by rw [List.getElem?_toArray,List.getElem?_map,List.getElem?_eq_getElem (by rw [yu];exact h32)];rfl);have f0:=zh (o:=k) K;clear K hr hh B;go_wp2;case roundEnd=>have F:zb [w.heap.size+1] wr (wr.setCell ⟨w.heap.size+1,k,none⟩ (.int .u8 (R.1.get (k/4)/2 ^ (24-8*(k%4))%256))):=Wd.setCell (.inl Wz) _;exact⟨⟨k+1,by go_num,Ws,zd HO.o (outK_set R.1 k h32),F.heap Jk.o Wz,Mp.o.kept F (by have:=Y.o;simp;omega),Gi.o.setCell (.inr Wz) _⟩,by simp [intOf];omega⟩
  ·obtain rfl:k=32:=by omega
   clear K hr hh B aa af ae;rw [outK_all] at HO;have J:((Qu R.1).map bv).toArray.size=32:=by simp [Y8]
   go_upto_region 13 with fail;refine wp_region_list ?_;change wpList _ _ _ [_,_] _ _;refine wpList_load_mid Wk 49 (.tmp 3) Wk (w.heap.size+1) 0 Wk ((Qu R.1).map bv) _ HO.o.range underlying49 rfl (by rw [List.length_map,Y8];exact kG) ?_;refine wpList_store_mid Wk 49 (.tmp 2) (.tmp 57) Wk w.heap.size 0 ((Qu R.1).map bv).toArray Wk Wk (by rw [J];exact Jk.o.there 32 (yu _ _)) (by rw [J];exact kG) (one32 _) ?_;have hF:Hid (yy (wr.setCells w.heap.size 0 ((Qu R.1).map bv)) w.heap.size (Qu R.1)):=qI (Jk.o.put (by rw [Y8,yu]));have y:Hid (zb [] w (wr.setCells w.heap.size 0 ((Qu R.1).map bv))):=qI (Gi.o.trans (yN w.heap.size ((Qu R.1).map bv) 0 wr) (by intro i L;simp at L;subst L;exact .inr (XA)));revert hF y;show _→_→wpList _ _ _ _ _ (wr.setCells w.heap.size 0 ((Qu R.1).map bv));generalize wr.setCells w.heap.size 0 ((Qu R.1).map bv)=WF;intro hF y;have n:=run_loadVar_mid (P:=prog) WF w.heap.size 0 49 ((Qu R.1).map bv) _ hF.o.range underlying49 rfl (by rw [List.length_map,Y8];exact kG);rw [HR.o] at n;try simp only [XI]
   go_wp2;exact bodyPost_ret (v:=.agg ((Qu (vG s (l++padL l.length m)).1).map bv).toArray) (by simp only [results,results146];simp [n,Sem.run_bind,asAddr]) rfl ⟨rfl,y.o⟩
theorem za4:∀ (k:Nat) (s:S8) (l:List UInt8),l.length≤k→(vG s l).2.length=l.length%64
 | 0,s,l,h=>by rw [Zf s l Ws];show l.length=_;omega
 | k+1,s,l,h=>by
  rcases Nat.lt_or_ge l.length 64 with h64 | h64;·rw [Zf s l h64];show l.length=_;omega
  ·rw [Qf s l h64,za4 k _ _ (by simp;omega),List.length_drop];omega
theorem yy.kept {g:Nat}(h:yy w g l)(k:zb X w w')(a:g ∉ X):yy w' g l:=k.heap h a
theorem yy.k0 {g:Nat}(h:yy w g l)(k:zb [] w w'):yy w' g l:=h.kept k Wz
theorem zL {a:Act}(e:op.guard=none)(x y:Operand)(m:op.op = .store 49 x y){g:Nat}{l0:List UInt8}(i:yy w g l0)(b:l0.length=32)(f:l.length=32)(j:a.eval x = .pointer (some ⟨g,0,none⟩))(k:a.eval y = .agg (l.map bv).toArray)(h:∀ w',yy w' g l→zb [g] w w'→wpList prog ops Q rest (a.put op.dst undef) w'):wpList prog ops Q (op::rest) a w:=by
 have d:(l.map bv).toArray.size=32:=by simp [f]
 refine wpList_store_mid e 49 x y m g 0 (l.map bv).toArray j k (by rw [d];exact i.there 32 b) (by rw [d];exact kG) (one32 _) (h _ ?_ (yN _ _ _ _));exact i.put (by rw [f,b])
theorem yY {a:Act}(b:op.guard=none)(x:Operand)(f:op.op = .load 49 x){g:Nat}(e:yy w g l)(i:l.length=32)(d:a.eval x = .pointer (some ⟨g,0,none⟩))(h:wpList prog ops Q rest (a.put op.dst (.agg (l.map bv).toArray)) w):wpList prog ops Q (op::rest) a w:=
 wpList_load_mid b 49 x f g 0 d (l.map bv) _ e.range underlying49 rfl (by rw [List.length_map,i];exact kG) h
theorem yy.var {g:Nat}(h:yy w g l)(a:l.length=32):(loadVar 49 ⟨g,0,none⟩).run prog w = .ok (.agg (l.map bv).toArray) w:=run_loadVar_mid (P:=prog) w g 0 49 (l.map bv) _ h.range underlying49 rfl (by rw [List.length_map,a];exact kG)
structure Y0 (w:World)(q:Nat)(l:List UInt8)(wr:World):Prop where
 hash:∃ v,yD wr q (vG ya l).1 v l.length∧zp wr v (vG ya l).2∧∀ g,yx v=some g→g≠q
 kept:zb [] w wr
 res:yy wr w.heap.size (qS ya 0)
 ks:qK wr
theorem of_any (w:World)(g o cap:Nat)(b:List Value)(d:List (List UInt8))(l:Row w g o b)(j:zM (zp w) b d)(m:d.flatten.length≤100000000)(W:b.length≤1000000)(s:qK w) : zJ w 98 #[.slice (some ⟨g,o,none⟩) b.length cap] (.agg ((qe d.flatten).map bv).toArray):=by
 have Jl:=qI l;have Gt:=qI j;have Gu:=qI m;have HN:=qI W;have Gk:=qI s;have Jj:=qI (KG s);have ad:(b.length:Int)≤1000000:=Ws;have Jr:Hid (d.length=b.length):=qI j.1.symm;clear l j m s W;go_enter func98,ntmps98;go_upto_region 1 with fail;change Code.wp _ _ _ _ (w.alloc (.cells z32 49));obtain⟨M,U⟩:=XE (w.alloc (.cells z32 49));have X:Hid (zb [] w M):=qI (kA1 U.o);have Gx:Hid (yy M w.heap.size (qS ya 0)):=qI (by rw [U.o];exact ze rfl);rw [← U.o];go_wp2_with (go_at_call 144;refine (new_any M).mono ?_;rintro e w2 ⟨q,rfl,hq,F,C⟩;have HQ:=qI hq;have Gn:=qI F;have N:=qI C;clear hq F C);have I:Hid (w.heap.size<q):=qI (XH HQ.o Gx.o.lt);go_loopw [5,9] (fun _ i wr=>∃ k:Nat,i = .int .i64 k∧k≤b.length∧Y0 w q (d.take k).flatten wr) (fun _ i _=>b.length-(intOf i).toNat);case atStart=>exact⟨0,rfl,XB,⟨⟨_,Gn.o,xX _ _,by simp [yx]⟩,X.o.then N.o,N.o.heap Gx.o Wz,Gk.o.k0 (X.o.then N.o)⟩⟩
 case round=>
  obtain⟨k,rfl,hk,⟨⟨v,hh,Z,hv⟩,E,f,p⟩⟩:=hrel;have J:=qI hh;have K:=qI Z;have HV:=qI hv;have H:=qI E;have Gv:=qI f;have Gg:=qI p;have O:Hid ((d.take k).flatten.length≤100000000):=qI (Nat.le_trans (vF d k) Gu.o);clear hh Z hv E f p;rcases Nat.lt_or_ge k b.length with hlt | hlt
  ·have aa:(k:Int)<b.length:=by omega
   have c0:=H.o.cell (Jl.o.at hlt) Wz;have h:k<d.length:=by rw [Jr.o];exact hlt
   have Y:Hid (zp wr b[k] d[k]):=qI ((Gt.o.2 k _ _ (List.getElem?_eq_getElem hlt) (List.getElem?_eq_getElem h)).k0 H.o);have G:Hid ((d.take (k+1)).flatten=(d.take k).flatten++d[k]):=qI (qr d k h);have Mq:Hid ((d.take (k+1)).flatten.length≤100000000):=qI (Nat.le_trans (vF d (k+1)) Gu.o);have Mr:Hid (∀ g,yx b[k]=some g→g≠q):=qI (fun g R=>by
    have r:=(Gt.o.2 k _ _ (List.getElem?_eq_getElem hlt) (List.getElem?_eq_getElem h)).lt R;have h2:=I.o;omega)
   have L:Hid (Calls prog 145 #[.pointer (some ⟨q,0,none⟩),b[k]] wr fun e w'=>e = .returned (.int .i64 d[k].length)∧Y0 w q (d.take (k+1)).flatten w'):=qI (by
    have r:=JI wr q _ v b[k] _ d[k] _ J.o K.o HV.o Y.o Mr.o (Nat.le_of_lt (KU _ _)) (by have:=Mq.o;rw [G.o,List.length_append] at this;omega) Ws (XC O.o) Gg.o (XH Jj.o I.o);refine r.mono ?_;rintro e w' ⟨rfl,⟨v',D,x,P⟩,y,z⟩;rw [← Y5 _ ya _ d[k] (XA),← G.o] at D x;refine⟨rfl,⟨v',?_,x,fun g R=>?_⟩,H.o.trans y (by intro i u;simp at u;subst u;exact .inr (XC I.o)),y.heap Gv.o (by have:=I.o;simp;omega),z⟩;·rw [G.o,List.length_append,Int.natCast_add];rw [← G.o];exact D
    ·have h2:=(P g R).1;have h3:=J.o.lt;omega)
   generalize Q:d[k].length=lk at L;clear Q;obtain⟨va,vn,vc,B,-,-⟩:∃ a n c,b[k] = .slice a n c∧True∧True:=by obtain⟨a,c,r,-,-⟩:=Y.o.form;exact⟨_,_,_,r,trivial,trivial⟩
   rw [B] at c0 L;have e9:o+k*1=o+k:=Ws;clear B;go_wp2_with (go_at_call 145;refine L.o.mono ?_;rintro e w3 ⟨rfl,A⟩;have Ms:=qI A;clear A);case roundEnd=>exact⟨⟨k+1,by go_num,Ws,Ms.o⟩,by simp [intOf];omega⟩
  ·obtain rfl:k=b.length:=by omega
   have HT:Hid (d.take b.length=d):=qI (by rw [← Jr.o];exact List.take_length);rw [HT.o] at J K O;have CS:Hid (zJ wr 146 #[.pointer (some ⟨q,0,none⟩)] (.agg ((qe d.flatten).map bv).toArray)):=qI (by
    have r:=sum_any wr q _ v _ d.flatten.length J.o K.o (KU _ _) (XC O.o) Gg.o;rw [← Y5 _ ya _ _ (XA),za4 _ _ _ (XA)] at r;exact r)
   have ab:((qe d.flatten).map bv).toArray.size=32:=by simp [yK]
   go_wp2_with first
    | (go_at_call 146;refine CS.o.mh ?_;rintro e w4 rfl Gh)
    | (refine zL Wk (.tmp 2) (.tmp 18) Wk (Gv.o.k0 Gh.o) (yu _ _) (yK _) Wk Wk ?_;intro w5 h5 t;have H5:=qI h5;have Gf:=qI t;clear h5 t)
   have f:=H5.o.var (yK _);refine bodyPost_ret (v:=.agg ((qe d.flatten).map bv).toArray) (by simp only [results,results98];simp [f,Sem.run_bind,asAddr,Act.put]) rfl ⟨rfl,?_⟩;exact (H.o.then Gh.o).trans Gf.o (by intro i u;simp at u;subst u;exact .inr (XA))
end Go.Proofs.YtjccecajigmfkaaGreatDoor

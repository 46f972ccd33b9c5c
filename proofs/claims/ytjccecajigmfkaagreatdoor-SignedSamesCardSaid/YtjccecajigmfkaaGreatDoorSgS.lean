/- Parts of one proof, merged: XCA XCB XCC XCD XCE. -/
import Derived.Test.YtjccecajigmfkaaGreatDoorSgQ
import Derived.Test.YtjccecajigmfkaaGreatDoorSgH
import Derived.Laws.IdiomStrings
import Derived.Deep.RegionLaw
set_option linter.all false
set_option maxHeartbeats 12800000
set_option maxRecDepth 10000
namespace Go.Proofs.YtjccecajigmfkaaGreatDoor
open Go.Proofs.Tryz
variable {L:List UInt8}{W:World}{a:Option Addr}{k:Nat}{l:List UInt8}{n p:Nat}{w:World}
def kZ (l:List UInt8):List UInt8:=jN l.length 4++l
def JS (tag:List UInt8)(ps:List (List UInt8)):List UInt8:=qe ((tag::ps).map kZ).flatten
theorem bU (t:List UInt8)(ps:List (List UInt8)):(JS t ps).length=32:=yK _
def tMsg:List UInt8:=[108,97,109,112,111,114,116,32,109,101,115,115,97,103,101]
def tSec:List UInt8:=[108,97,109,112,111,114,116,32,115,101,99,114,101,116]
def tKey:List UInt8:=[108,97,109,112,111,114,116,32,107,101,121]
def tNode:List UInt8:=[109,101,114,107,108,101,32,110,111,100,101]
def vA (m:List UInt8):List UInt8:=JS tMsg [m]
theorem zaR (m:List UInt8):(vA m).length=32:=bU _ _
def xy (d:List UInt8)(b:Nat):Nat:=(d.getD (b/8) 0).toNat/2 ^ (7-b%8)%2
theorem JB (d:List UInt8)(b:Nat):xy d b<2:=Nat.mod_lt _ Wo
def kr (seed:List UInt8)(leaf bit side:Nat):List UInt8:=JS tSec [seed,jN leaf 4,jN bit 2,[UInt8.ofNat side]]
theorem vV (seed:List UInt8)(leaf b a:Nat):(kr seed leaf b a).length=32:=bU _ _
def duoL (seed:List UInt8)(leaf b:Nat):List UInt8:=qe (kr seed leaf b 0)++qe (kr seed leaf b 1)
def zad (seed:List UInt8)(leaf bits:Nat):List UInt8:=JS tKey [((List.range bits).map (duoL seed leaf)).flatten]
theorem qN (seed:List UInt8)(leaf bits:Nat):(zad seed leaf bits).length=32:=bU _ _
structure Qz where
 rev:List (List UInt8)
 oth:List (List UInt8)
def yT (l:List (List UInt8)):Prop:=∀ x,x∈l→x.length=32
theorem yT.nil:yT []:=fun _ h=>nomatch h
theorem yT.flat {l:List (List UInt8)}(h:yT l):l.flatten.length=l.length*32:=by
 induction l with
 | nil=>rfl
 | cons x t ih=>
  rw [List.flatten_cons,List.length_append,ih (fun y a=>h y (List.mem_cons_of_mem _ a)),h x Wz,List.length_cons]
  omega
def revL (seed:List UInt8)(leaf:Nat)(m:List UInt8)(b:Nat):List UInt8:=kr seed leaf b (xy (vA m) b)
def othL (seed:List UInt8)(leaf:Nat)(m:List UInt8)(b:Nat):List UInt8:=qe (kr seed leaf b (1-xy (vA m) b))
def vz (seed:List UInt8)(leaf bits:Nat)(m:List UInt8):Qz:=⟨(List.range bits).map (revL seed leaf m),(List.range bits).map (othL seed leaf m)⟩
theorem signL_32 (seed:List UInt8)(leaf bits:Nat)(m:List UInt8):yT (vz seed leaf bits m).rev∧yT (vz seed leaf bits m).oth:=by
 refine⟨fun x a=>?_,fun x a=>?_⟩
 ·obtain⟨b,-,rfl⟩:=List.mem_map.1 a
  exact vV _ _ _ _
 ·obtain⟨b,-,rfl⟩:=List.mem_map.1 a
  exact yK _
def JJ (m:List UInt8)(o:Qz)(b:Nat):List UInt8:=
 if xy (vA m) b=0 then qe (o.rev.getD b [])++o.oth.getD b [] else o.oth.getD b []++qe (o.rev.getD b [])
def jm (m:List UInt8)(o:Qz):List UInt8:=JS tKey [((List.range o.rev.length).map (JJ m o)).flatten]
theorem Qj (m:List UInt8)(o:Qz):(jm m o).length=32:=bU _ _
theorem impl_sign (seed:List UInt8)(leaf bits:Nat)(m:List UInt8):jm m (vz seed leaf bits m)=zad seed leaf bits:=by
 unfold jm zad
 have e:(vz seed leaf bits m).rev.length=bits:=by simp [vz]
 rw [e]
 congr 3
 apply List.map_congr_left
 intro b a
 have a:=List.mem_range.1 a
 have h:(vz seed leaf bits m).rev.getD b []=revL seed leaf m b:=by
  simp [vz,List.getD,a]
 have h2:(vz seed leaf bits m).oth.getD b []=othL seed leaf m b:=by
  simp [vz,List.getD,a]
 unfold JJ duoL
 rw [h,h2,revL,othL]
 have h3:=JB (vA m) b
 by_cases d:xy (vA m) b=0
 ·rw [if_pos d,d]
 ·have f:xy (vA m) b=1:=by omega
  rw [if_neg d,f]
def vi (o:Qz)(b:Nat):List UInt8:=o.rev.getD b []++o.oth.getD b []
def jZ (o:Qz):List UInt8:=((List.range o.rev.length).map (vi o)).flatten
def Qv (n k:Nat)(l:List UInt8):List (List UInt8):=(List.range k).map fun i=>(l.drop (n*i)).take n
theorem zaZ (n k:Nat)(l:List UInt8):(Qv n k l).length=k:=by simp [Qv]
theorem cutL_32 (h:l.length=n*k):∀ x,x∈Qv n k l→x.length=n:=fun x b=>by
 obtain⟨i,a,rfl⟩:=List.mem_map.1 b
 have a:=List.mem_range.1 a
 have d:n*(i+1)≤n*k:=Nat.mul_le_mul_left n a
 rw [Nat.mul_add] at d
 simp
 omega
theorem cutL_flat (n:Nat):∀ (ls:List (List UInt8)),(∀ x,x∈ls→x.length=n)→Qv n ls.length ls.flatten=ls
 | [],_=>rfl
 | x::t,h=>by
  have hx:=h x Wz
  have a:=cutL_flat n t (fun y b=>h y (List.mem_cons_of_mem _ b))
  unfold Qv at a ⊢
  rw [List.length_cons,List.range_succ_eq_map,List.map_cons,List.map_map,List.flatten_cons]
  congr 1
  ·simp [← hx]
  ·conv=>rhs;rw [← a]
   apply List.map_congr_left
   intro i _
   show List.take n (List.drop (n*(i+1)) (x++t.flatten))=_
   rw [Nat.mul_add,Nat.mul_one,Nat.add_comm,← List.drop_drop]
   congr 2
   rw [← hx,List.drop_left]
def QR (k:Nat)(l:List UInt8):Qz:=⟨(Qv 64 k l).map (List.take 32),(Qv 64 k l).map (List.drop 32)⟩
theorem decO_32 (h:l.length=64*k):yT (QR k l).rev∧yT (QR k l).oth:=by
 refine⟨fun x a=>?_,fun x a=>?_⟩
 ·obtain⟨y,b,rfl⟩:=List.mem_map.1 a
  have:=cutL_32 h y b
  rw [List.length_take];omega
 ·obtain⟨y,b,rfl⟩:=List.mem_map.1 a
  have:=cutL_32 h y b
  rw [List.length_drop];omega
theorem zbL (k:Nat)(l:List UInt8):(QR k l).rev.length=k∧(QR k l).oth.length=k:=by simp [QR,zaZ]
theorem vI {o:Qz}(d:yT o.rev)(h2:yT o.oth)(e:o.oth.length=o.rev.length){b:Nat}(a:b<o.rev.length):(o.rev.getD b []).length=32∧(o.oth.getD b []).length=32:=by
 refine⟨?_,?_⟩
 ·rw [List.getD,List.getElem?_eq_getElem a];exact d _ (List.getElem_mem _)
 ·rw [List.getD,List.getElem?_eq_getElem Ws];exact h2 _ (List.getElem_mem _)
theorem K9 {o:Qz}(a:yT o.rev)(h2:yT o.oth)(d:o.oth.length=o.rev.length):(jZ o).length=64*o.rev.length:=by
 unfold jZ
 have:∀ k,k≤o.rev.length→((List.range k).map (vi o)).flatten.length=64*k:=by
  intro k
  induction k with
  | zero=>intro _;rfl
  | succ k ih=>
   intro e
   have h3:=vI a h2 d (b:=k) Ws
   rw [List.range_succ,List.map_append,List.flatten_append,List.length_append,ih Ws]
   simp only [List.map_cons,List.map_nil,List.flatten_cons,List.flatten_nil,List.append_nil,vi,List.length_append]
   omega
 exact this _ (XA)
theorem dec_code {o:Qz}(f:yT o.rev)(h2:yT o.oth)(d:o.oth.length=o.rev.length):QR o.rev.length (jZ o)=o:=by
 have hc:Qv 64 o.rev.length (jZ o)=(List.range o.rev.length).map (vi o):=by
  have h3:=cutL_flat 64 ((List.range o.rev.length).map (vi o)) (fun x k=>by
   obtain⟨b,j,rfl⟩:=List.mem_map.1 k
   have e:=vI f h2 d (List.mem_range.1 j)
   rw [vi,List.length_append];omega)
  rw [List.length_map,List.length_range] at h3
  exact h3
 cases o with
 | mk rev oth=>
  simp only at d f h2 hc ⊢
  unfold QR
  rw [hc]
  congr 1
  ·apply List.ext_getElem
   ·simp
   ·intro i h a
    have e:=vI (o:=⟨rev,oth⟩) f h2 d a
    simp only at e
    simp only [List.getElem_map,List.getElem_range,vi]
    rw [List.take_append_of_le_length Ws,List.take_of_length_le Ws]
    simp [List.getD,a]
  ·apply List.ext_getElem
   ·simp [d]
   ·intro i h a
    have e:=vI (o:=⟨rev,oth⟩) (b:=i) f h2 d (by simp only;omega)
    simp only at e
    simp only [List.getElem_map,List.getElem_range,vi]
    rw [List.drop_append_of_le_length Ws,List.drop_of_length_le Ws,List.nil_append]
    simp [List.getD,a]
def j8 (a b:List UInt8):List UInt8:=JS tNode [a,b]
theorem Qs (a b:List UInt8):(j8 a b).length=32:=bU _ _
def jW:List UInt8→Nat→List (List UInt8)→List UInt8
 | x,_,[]=>x
 | x,i,y::t=>jW (if i%2=0 then j8 x y else j8 y x) (i/2) t
theorem zbn:∀ (t:List (List UInt8)) (x:List UInt8) (i:Nat),x.length=32→(jW x i t).length=32
 | [],_,_,h=>h
 | y::t,x,i,_=>zbn t _ _ (by split <;> exact Qs _ _)
structure SigS where
 leaf:Nat
 one:Qz
 way:List (List UInt8)
def YO (l:List UInt8):Nat:=l.foldl (fun n c=>n*256+c.toNat) 0
theorem numB_snoc (l:List UInt8)(c:UInt8):YO (l++[c])=YO l*256+c.toNat:=by simp [YO]
def ki (bits height:Nat)(b:List UInt8):SigS:=⟨YO (b.take 4),QR bits ((b.drop 4).take (64*bits)),Qv 32 height ((b.drop (4+64*bits)).take (32*height))⟩
def bE (bits height:Nat)(b:List UInt8):Bool:=decide (b.length=4+64*bits+32*height)&&decide (YO (b.take 4)≤1073741824)
def verS (root:List UInt8)(m:List UInt8)(s:SigS):Bool:=decide (s.leaf<2 ^ s.way.length)&&decide (jW (jm m s.one) s.leaf s.way=root)
def xQ (s:SigS):List UInt8:=jN s.leaf 4++jZ s.one++s.way.flatten
open Go.RowKit
theorem tySlices:xG prog 182 32 1 24 (.slice none 0 0):=⟨underlying182,Wr,rfl,Wo⟩
theorem growS_any (n:Nat)(w:World)(s:n≤100000) : Calls prog 229 #[.slice none 0 0,.int .i64 n] w fun e w'=>∃ v',e = .returned v'∧w'.ownsRow w.heap.size 32 1 v' 0 []∧zb [] w w':=by
 obtain⟨i,p,m,r,l⟩:=info_parts tySlices.info;by_cases t:0<n
 ·have a:=Lib.run_append_nil_zeros w 182 3 182 32 i (.slice none 0 0) .i64 .i64 underlying182 underlying3 p m n t Ws Ws (by rw [l];omega);have h:=grownCap_ge w n 0 32;have b:=grownCap_le_maxLen w n 0 32 (by simp only [maxLen];omega);have d:(Builtin.zeroCells (Value.slice none 0 0).cells n++Builtin.zeroCells (Value.slice none 0 0).cells (grownCap w n 0 32-n)).size=grownCap w n 0 32*1:=by simp only [Array.size_append,size_zeroCells];simp [Value.cells];omega
  revert a h b d;generalize grownCap w n 0 32=cap;generalize (Builtin.zeroCells (Value.slice none 0 0).cells n++Builtin.zeroCells (Value.slice none 0 0).cells (cap-n))=cs;intro a h b d;have f:=qI b;have j:=qI d;have q:(n:Int)≤100000:=Ws;have k:=qI a;clear b d s p m r l a;go_enter func229,ntmps229;go_wp2_with (at_builtin;refine Lib.wpList_append_run _ rfl _ _ _ _ rfl _ _ rfl rfl _ _ k.o ?_);go_ret;refine⟨_,rfl,⟨rfl,.inr ⟨w.heap.size,cap,cs,rfl,XA,heap_alloc_new w.drew _,XB,f.o,j.o,Wz⟩⟩,((zb.refl _ w).drew).alloc _⟩
 ·obtain rfl:n=0:=by omega
  go_enter func229,ntmps229;go_wp2;go_ret;exact⟨_,rfl,World.ownsRow_nil _ _ _ _,Wd⟩
theorem concatS_any (g o cap:Nat)(a:List Value)(b:List (List Value))(w:World)(x:Row w g o a)(p:zM (fun v l=>Slc w 1 v l.length l) a b)(U:∀ l,l∈b→∀ u∈l,u.oneCell'=true)(y:b.flatten.length≤100000)(L:a.length≤100000) : Calls prog 181 #[.slice (some ⟨g,o,none⟩) a.length cap] w fun e w'=>∃ v',e = .returned v'∧w'.ownsRow w.heap.size 32 1 v' b.flatten.length b.flatten∧zb [] w w':=by
 have G:∀ j,(b.take j).flatten.length≤100000:=fun j=>by have:=vF b j;omega
 have t:=p.1;have r:=qI G;have n:=qI t;have Q:=qI y;have H1:=qI U;have Z:(a.length:Int)≤100000:=Ws;clear G t y L U;go_enter func181,ntmps181;go_wp2_with fail;go_loop [3,11] (fun s i=>∃ k:Nat,k≤a.length∧i = .int .i64 k∧s = .int .i64 (b.take k).flatten.length) (fun _ i=>a.length-(intOf i).toNat);case atStart=>exact⟨0,XB,rfl,Wz⟩
 case round=>
  obtain⟨k,L,rfl,rfl⟩:=hrel;by_cases h:k<a.length
  ·have d:k<b.length:=by rw [← n.o];exact h
   have hc:=x.at h;have I:=p.2 k a[k] b[k] (by simp [h]) (by simp [d]);have aa:=qI I;obtain⟨a1,c1,hv,-,-⟩:=I.form;rw [hv] at hc;have z:=qI (qr b k d);have F:=r.o k;have D:=r.o (k+1);have W:(b.take k).flatten.length+b[k].length≤100000:=by rw [z.o,List.length_append] at D;exact D
   clear I hv D;revert F W z;generalize J:(b.take k).flatten.length=n1;generalize H:b[k].length=n2 at hc ⊢;intro z F W;have O:=qI J;have P:=qI H;clear J H;go_wp2_with fail;go_round;case rel=>refine⟨k+1,Ws,by go_num,?_⟩;rw [z.o,List.length_append,O.o,P.o];go_num
   case measure=>simp [intOf];omega
  ·obtain rfl:k=a.length:=by omega
   have E:b.take a.length=b:=by rw [n.o];exact List.take_length
   rw [E];have l0:=r.o a.length;rw [E] at l0;clear E;revert l0;generalize R:b.flatten.length=N;intro l0;have HN:=qI R;clear R;have X:=growS_any N w l0;have Y:=qI X;clear X;go_wp2_with (go_at_call 229;refine Y.o.mono ?_;rintro e w1 ⟨v1,rfl,B,K⟩);clear Y;go_loopw [6,27] (fun v i wr=>∃ k:Nat,k≤a.length∧i = .int .i64 k∧wr.ownsRow w.heap.size 32 1 v (b.take k).flatten.length (b.take k).flatten∧zb [] w wr) (fun _ i _=>a.length-(intOf i).toNat);case atStart=>exact⟨0,XB,rfl,by simpa using B,K⟩
   case round=>
    obtain⟨k,L,rfl,f,q⟩:=hrel;by_cases h:k<a.length
    ·have d:k<b.length:=by rw [← n.o];exact h
     have hc:=(x.kept q Wz).at h;have I:=(p.2 k a[k] b[k] (by simp [h]) (by simp [d])).k0 q;have z:=qI (qr b k d);have F:=r.o (k+1);rw [z.o,List.length_append] at F;have D:=qI F;clear F;have A:=q.size;have m:=qI f;clear f;go_wp2_with (at_builtin;refine zG tySlices m.o I (H1.o _ (List.getElem_mem _)) (by have:=D.o;simp only [maxLen];omega) (XC D.o) A rfl _ _ rfl rfl rfl ?_;intro v' w2 C M _ ab);go_roundw;case rel=>
      refine⟨k+1,Ws,by go_num,?_,q.trans M ?_⟩;·rw [z.o,List.length_append];exact C
      ·intro i hi;exact .inr ((World.ownsRow.lt m.o i (XD hi)).1)
     case measure=>simp [intOf];omega
    ·obtain rfl:k=a.length:=by omega
     have E:b.take a.length=b:=by rw [n.o];exact List.take_length
     rw [E] at f;have m:=qI f;clear f E;go_wp2;go_ret;exact⟨_,rfl,by rw [← HN.o];exact m.o,q⟩
theorem zbp (l:List UInt8):(kZ l).length=4+l.length:=by rw [kZ,List.length_append,xB]
theorem octText_any (s:ByteArray)(n:s.size≤1048576)(w:World):Calls prog 182 #[.string s] w fun e w'=>(∃ a c,e = .returned (.tuple #[.slice a (kZ s.data.toList).length c,.int .i64 0])∧qs w w' (.slice a (kZ s.data.toList).length c) (kZ s.data.toList))∧zb [] w w':=by
 have x:=qI (QZ s.size 4 w Wo Wo (.inr Ws));have p:Hid (s.data.toList.length=s.size):=qI Wz;have y:Hid ((kZ s.data.toList).length=4+s.size):=qI (by rw [zbp,p.o]);have F:Hid (((jN s.size 4).map bv++Lib.strCells s)=(kZ s.data.toList).map bv):=qI (by rw [kZ,List.map_append,p.o];rfl);obtain⟨D,u,h,l,j⟩:=info_parts vC.info;have C:=qI u;have m:=qI (And.intro h (And.intro l j));have B:(s.size:Int)≤1048576:=Ws;have t:=qI n;generalize r:(kZ s.data.toList).length=N;have H:=qI r;clear u h l j n r;go_enter func182,ntmps182;go_wp2_with first
  | (go_at_call 96;refine x.o.mono ?_;rintro e I ⟨G,c1,rfl,d,f⟩;have v:=qI d;have q:=qI f;clear d f)
  | (at_builtin;refine Lib.wpList_append_own_string _ rfl _ _ 32 9 rfl w.heap.size 5 D underlying32 underlying9 C.o m.o.1 m.o.2.1 m.o.2.2 (.slice G 4 c1) 4 _ rfl v.o s rfl (by have:=t.o;simp only [maxLen];omega) (XC t.o) q.o.size ?_;intro v2 w2 b i _;rw [F.o,← y.o,H.o] at b;obtain⟨a2,c2,rfl,-,-⟩:=(Slc.of_row b).form;have E:=qI b;have A:=qI i;clear b i)
 go_ret2;exact⟨⟨_,_,rfl,kQ E.o⟩,q.o.grown A.o (fun k z=>.inr (v.o.lt k z).1)⟩
theorem row_of_own {base e:Nat}{v:Value}{xs:List Value}(h:w.ownsRow base e 1 v n xs)(k:0<n):∃ g c,v = .slice (some ⟨g,0,none⟩) n c∧base≤g∧Row w g 0 xs:=by
 have h2:=Slc.of_row h;rcases h.2 with ⟨rfl,f⟩ | ⟨g,cap,a,hv,b,j,hc,hm,i,q⟩
 ·omega
 ·subst hv;rcases h2.2 with ⟨h3,_⟩ | ⟨f,_⟩ | ⟨m,p,l,h3,-,-,d⟩
  ·cases h3
  ·omega
  ·cases h3
   exact⟨_,_,rfl,b,d⟩
theorem zaa:∀ (ls:List (List UInt8)),(∀ l,l∈ls→l.length≤1048576)→(ls.map kZ).flatten.length≤1048580*ls.length
 | [],_=>by simp
 | x::t,h=>by have h1:=zaa t (fun l a=>h l (List.mem_cons_of_mem _ a));have h2:=h x Wz;rw [List.map_cons,List.flatten_cons,List.length_append,zbp,List.length_cons];omega
theorem Y0.k0 {w wr a:World}{q:Nat}{L:List UInt8}(h:Y0 w q L wr)(k:zb [] wr a):Y0 w q L a:=by
 obtain⟨v,b,h2,h3⟩:=h.hash;exact⟨⟨v,b.kept k Wz,h2.k0 k,h3⟩,h.kept.then k,h.res.k0 k,h.ks.k0 k⟩
theorem of_step {wr:World}{q:Nat}{b:List UInt8}{c:Nat}(h:Y0 w q L wr)(A:w.heap.size<q)(t:0<w.heap.size)(x:zp wr (.slice a b.length c) b)(r:∀ g,yx (.slice a b.length c)=some g→g≠q)(B:L.length≤100000000)(s:b.length≤100000000) : Calls prog 145 #[.pointer (some ⟨q,0,none⟩),.slice a b.length c] wr fun e w'=>e = .returned (.int .i64 b.length)∧Y0 w q (L++b) w'∧zb [q] wr w':=by
 obtain⟨v,p,hv,l⟩:=h.hash;have z:=JI wr q _ v _ _ b _ p hv l x r (Nat.le_of_lt (KU _ _)) Ws Ws Ws h.ks Ws;refine z.mono ?_;rintro e w' ⟨rfl,⟨y,f,j,m⟩,d,k⟩;rw [← Y5 _ ya _ b (XA)] at f j;refine⟨rfl,⟨⟨y,?_,j,fun g u=>?_⟩,h.kept.trans d (by intro i n;simp at n;subst n;exact .inr Ws),d.heap h.res (by simp;omega),k⟩,d⟩;·rw [List.length_append,Int.natCast_add];exact f
 ·have h2:=(m g u).1;have h3:=p.lt;omega
theorem oneCells {b:List Value}{e:List (List UInt8)}(h:zM (zp w) b e):∀ u∈b,u.oneCell'=true:=by
 intro u i;obtain⟨j,f,rfl⟩:=List.mem_iff_getElem.1 i;have d:j<e.length:=by rw [← h.1];exact f
 obtain⟨a,c,k,-,-⟩:=(h.2 j _ _ (List.getElem?_eq_getElem f) (List.getElem?_eq_getElem d)).form;rw [k];rfl
theorem str_bytes2 (w:World)(s:ByteArray)(i:s.size≤281474976710656):∃ n c w',(convert 9 32 (.string s)).run prog w = .ok (.slice (some ⟨w.heap.size,0,none⟩) n c) w'∧n=s.data.toList.length∧zp w' (.slice (some ⟨w.heap.size,0,none⟩) n c) s.data.toList∧zb [] w w':=by
 refine⟨_,_,_,run_bytes_of_string w 9 32 5 s underlying9 underlying32 underlying5,Wz,?_,?_⟩
 ·have e:s.data.toList.length=s.size:=by simp
  refine⟨Wz,.inr (.inr ⟨w.heap.size,0,_,by rw [e],by rw [e];exact grownCap_ge _ _ _ _,grownCap_le_maxLen _ _ _ _ (by simp only [maxLen];omega),⟨?_,?_⟩⟩)⟩
  ·intro j u d;rw [List.getElem?_map,Option.map_eq_some_iff] at d;obtain⟨b,f,rfl⟩:=d;obtain⟨h,rfl⟩:=List.getElem?_eq_some_iff.1 f;have a:j<s.data.size:=by simpa using h
   rw [Nat.zero_add];refine za (heap_alloc_new _ _) ?_;rw [bytesRow_at s _ j a];simp [bv]
  ·show w.heap.size<(w.drew.alloc _).heap.size;simp
 ·exact (zb.refl [] w).drew.alloc _
theorem zaH (f:ByteArray)(w:World)(a:Option Addr)(cap:Nat)(b:List Value)(M:List (List UInt8))(t:Slc w 1 (.slice a b.length cap) b.length b)(s:zM (zp w) b M)(hb:∀ l,l∈M→l.length≤1048576)(ht:f.size≤1000)(hn:b.length≤16)(H:qK w) : zJ w 135 #[.string f,.slice a b.length cap] (.agg ((JS f.data.toList M).map bv).toArray):=by
 obtain⟨W1,Gb⟩:=XE (w.alloc (.cells z32 49));have Ga:Hid (zb [] w W1):=qI (kA1 Gb.o);have Gz:Hid (yy W1 w.heap.size (qS ya 0)):=qI (by rw [Gb.o];exact ze rfl);have Jt:=qI t;have Gd:=qI s;have Ju:=qI H;have Jv:=qI (KG H);have Jw:=qI ht;have Ge:=qI hn;obtain⟨d,Gp⟩:=XE (f.data.toList::M);have Gf:Hid (∀ l,l∈d→l.length≤1048576):=qI (fun l L=>by
  rw [Gp.o] at L;rcases List.mem_cons.1 L with rfl | m
  ·have:f.data.toList.length=f.size:=by simp
   omega
  ·exact hb l m)
 obtain⟨N,HN⟩:=XE (b.length+1);have Gr:Hid (d.length=N):=qI (by rw [Gp.o,List.length_cons,← s.1,HN.o]);clear t s hb ht hn H;go_enter func135,ntmps135;go_upto_region 1 with fail;refine xg Gb.o ?_;go_upto_region 2 with (go_at_call 144;refine (new_any W1).mono ?_;rintro e w2 ⟨q,rfl,hq,aj,ae⟩;have HQ:=qI hq;have Ja:=qI aj;have Gc:=qI ae;clear hq aj ae);have Jb:Hid (w.heap.size<q):=qI (XH HQ.o Gz.o.lt);obtain⟨O,P,r,F,X,G,I⟩:=str_bytes2 w2 f (XC Jw.o);obtain⟨xs,Gh⟩:∃ xs,Hid (xs = .slice (some ⟨w2.heap.size,0,none⟩) O P::b):=⟨_,qI rfl⟩;have Jx:Hid (xs.length=N):=qI (by rw [Gh.o,HN.o];rfl);obtain⟨p,Gq⟩:=XE ((r.alloc (.cells #[.slice (some ⟨w2.heap.size,0,none⟩) O P] 32)).alloc (.cells #[.slice (some ⟨r.heap.size,0,none⟩) 1 1,.slice a b.length cap] 182));have Gj:Hid (zb [] r p):=qI (kA2 Gq.o);have Gs:Hid (zb [] w r):=qI ((Ga.o.then Gc.o).then I);have Gk:Hid (zb [] w p):=qI (Gs.o.then Gj.o);have Jc:Hid (Y0 w q [] p):=qI (Y0.k0 (wr:=w2) ⟨⟨_,Ja.o,xX _ _,by simp [yx]⟩,Ga.o.then Gc.o,Gc.o.heap Gz.o Wz,Ju.o.k0 (Ga.o.then Gc.o)⟩ (I.then Gj.o));have Gl:Hid (zM (zp p) xs d):=qI (by
  rw [Gh.o,Gp.o];rw [X] at G ⊢;exact (Gd.o.mono (fun x y _ h=>h.k0 Gk.o)).cons (G.k0 Gj.o))
 have CC:Hid (Calls prog 181 #[.slice (some ⟨r.heap.size+1,0,none⟩) 2 2] p fun e D=>∃ v',e = .returned v'∧D.ownsRow p.heap.size 32 1 v' N xs∧zb [] p D):=qI (by
  have m:Slc p 1 (.slice (some ⟨r.heap.size,0,none⟩) 1 1) 1 [.slice (some ⟨w2.heap.size,0,none⟩) O P]:=by rw [Gq.o];exact (ZV r (.slice (some ⟨w2.heap.size,0,none⟩) O P) _ _ rfl).k0 ((zb.refl [] _).alloc _)
  have h2:=Jt.o.k0 Gk.o;have h3:Row p (r.heap.size+1) 0 [.slice (some ⟨r.heap.size,0,none⟩) 1 1,.slice a b.length cap]:=by have Q:=Kv (r.alloc (.cells #[.slice (some ⟨w2.heap.size,0,none⟩) O P] 32)) [.slice (some ⟨r.heap.size,0,none⟩) 1 1,.slice a b.length cap] 182;rw [Gq.o];simpa using Q
  have C:=concatS_any (r.heap.size+1) 0 2 _ [[.slice (some ⟨w2.heap.size,0,none⟩) O P],b] p h3 (zM.cons (R:=fun v l=>Slc p 1 v l.length l) m (zM.cons (R:=fun v l=>Slc p 1 v l.length l) h2 (zM.nil _))) (fun l L u hu=>by
   simp only [List.mem_cons,List.not_mem_nil,or_false] at L;rcases L with rfl | rfl
   ·simp only [List.mem_cons,List.not_mem_nil,or_false] at hu;subst hu;rfl
   ·exact oneCells Gd.o u hu) (by simp;have:=Ge.o;omega) Wz
  simp only [List.flatten_cons,List.flatten_nil,List.append_nil,List.cons_append,List.nil_append,List.length_cons] at C;rw [← Gh.o,← HN.o] at C;exact C)
 have ao:(b.length:Int)≤16:=XC Ge.o;have an:(N:Int)≤17:=XH Ge.o HN.o;clear X G I;go_upto_region 3 with (go_at_call 181;rw [← Gq.o];refine CC.o.mono ?_;rintro e w6 ⟨v6,rfl,B,Z⟩;obtain⟨g6,c6,rfl,hg6,hr6⟩:=row_of_own B (by rw [HN.o];exact Nat.succ_pos _);have Jy:=qI hr6;have Jz:=qI hg6;have Jd:=qI Z;clear B Z hg6 hr6);have Ma:Hid (q<p.heap.size):=qI (by obtain⟨v,m,-⟩:=Jc.o.hash;exact m.lt);have Je:Hid (∀ k,((d.take k).map kZ).flatten.length≤18000000):=qI (fun k=>by
  have m:=zaa (d.take k) (fun l L=>Gf.o l (List.mem_of_mem_take L));have h2:(d.take k).length≤17:=by rw [List.length_take,Gr.o];omega
  have h3:1048580*(d.take k).length≤1048580*17:=Nat.mul_le_mul_left _ h2;omega)
 have Mb:Hid (∀ k (h:k<xs.length) g,yx xs[k]=some g→g≠q):=qI (fun k h g E=>by
  have h2:q<w2.heap.size:=Ja.o.lt;have h3:xs[k]∈xs:=List.getElem_mem h;generalize xs[k]=z at h3 E;rw [Gh.o] at h3;rcases List.mem_cons.1 h3 with Q | Q
  ·rw [Q] at E;have C:=(vj E).2;simp [Value.ownBlock] at C;omega
  ·obtain⟨j,hj,C⟩:=List.mem_iff_getElem.1 Q;have al:j<M.length:=by rw [← Gd.o.1];exact hj
   rw [← C] at E;have h6:=(Gd.o.2 j _ _ (List.getElem?_eq_getElem hj) (List.getElem?_eq_getElem al)).lt E;have:=Jb.o;omega)
 clear F;go_loopw [7,8,9,18] (fun _ _ _ i wr=>∃ k:Nat,i = .int .i64 k∧k≤N∧Y0 w q ((d.take k).map kZ).flatten wr∧zb [q] w6 wr) (fun _ _ _ i _=>N-(intOf i).toNat);case atStart=>exact⟨0,rfl,XB,Jc.o.k0 Jd.o,Wd⟩
 case round=>
  obtain⟨k,rfl,hk,W,ag⟩:=hrel;have K:=qI W;have Gt:=qI ag;clear W ag;rcases Nat.lt_or_ge k N with hlt | hlt
  ·have am:(k:Int)<N:=by omega
   have J:k<xs.length:=by rw [Jx.o];exact hlt
   have ai:k<d.length:=by rw [Gr.o];exact hlt
   have c0:=Gt.o.cell (Jy.o.at J) (by have:=Ma.o;have:=Jz.o;simp;omega);rw [Nat.zero_add] at c0;have Gu:Hid (zp wr xs[k] d[k]):=qI (((Gl.o.2 k _ _ (List.getElem?_eq_getElem J) (List.getElem?_eq_getElem ai)).k0 Jd.o).kept Gt.o (fun g E=>by have:=Mb.o k J g E;simpa using this));have Gv:Hid (d[k].length≤1048576):=qI (Gf.o _ (List.getElem_mem _));have Jf:Hid (((d.take (k+1)).map kZ).flatten=((d.take k).map kZ).flatten++kZ d[k]):=qI (by
    rw [List.take_succ_eq_append_getElem ai,List.map_append,List.flatten_append];simp)
   generalize d[k]=lk at Gu Gv Jf;have CT:Hid (Calls prog 182 #[.string (zx lk)] wr fun e D=>(∃ a c,e = .returned (.tuple #[.slice a (kZ lk).length c,.int .i64 0])∧qs wr D (.slice a (kZ lk).length c) (kZ lk))∧zb [] wr D):=qI (by
    have m:=octText_any (zx lk) (by rw [yd];exact Gv.o) wr;rw [zK] at m;exact m)
   have CW:Hid (∀ (w7:World) (a7:Option Addr) (c7:Nat),qs wr w7 (.slice a7 (kZ lk).length c7) (kZ lk)→zb [] wr w7→Calls prog 145 #[.pointer (some ⟨q,0,none⟩),.slice a7 (kZ lk).length c7] w7 fun e D=>e = .returned (.int .i64 (kZ lk).length)∧Y0 w q ((d.take (k+1)).map kZ).flatten D∧zb [q] w6 D):=qI (fun w7 a7 c7 aa A=>by
    have m:=of_step (K.o.k0 A) Jb.o Jv.o aa.1 (fun g E=>by have h2:=(aa.2 g E).1;obtain⟨v,h3,-⟩:=K.o.hash;have Q:=h3.lt;omega) (XC (Je.o k)) (by rw [zbp];have:=Gv.o;omega);refine m.mono ?_;rintro e D ⟨rfl,h2,h3⟩;rw [Jf.o];exact⟨rfl,h2,(Gt.o.then A).trans' h3⟩)
   have ak:=Gu.o.toStr;obtain⟨va,vn,vc,ad,-,-⟩:∃ a n c,xs[k] = .slice a n c∧True∧True:=by obtain⟨a,c,m,-,-⟩:=Gu.o.form;exact⟨_,_,_,m,trivial,trivial⟩
   rw [ad] at c0 ak;generalize (kZ lk).length=tl at CT CW;clear ad;go_wp2_with first
    | (go_at_call 182;refine CT.o.mono ?_;rintro e w7 ⟨⟨a7,c7,rfl,af⟩,A⟩;have Mc:=qI af;have Md:=qI A;clear af A)
    | (go_at_call 145;refine (CW.o _ _ _ Mc.o Md.o).mono ?_;rintro e w8 ⟨rfl,ah,ab⟩;have Me:=qI ah;have Mf:=qI ab;clear ah ab)
   case roundEnd=>exact⟨⟨k+1,by go_num,Ws,Me.o,Mf.o⟩,by simp [intOf];omega⟩
  ·obtain rfl:k=N:=by omega
   have HT:Hid (((d.take k).map kZ).flatten=(d.map kZ).flatten):=qI (by rw [← Gr.o,List.take_length]);rw [HT.o] at K;have Jg:Hid (JS f.data.toList M=qe (d.map kZ).flatten):=qI (by rw [Gp.o];rfl);have CS:Hid (zJ wr 146 #[.pointer (some ⟨q,0,none⟩)] (.agg ((qe (d.map kZ).flatten).map bv).toArray)):=qI (by
    obtain⟨v,m,h2,-⟩:=K.o.hash;have h3:=sum_any wr q _ v _ (d.map kZ).flatten.length m h2 (KU _ _) (by have:=Je.o k;rw [HT.o] at this;omega) K.o.ks;rw [← Y5 _ ya _ _ (XA),za4 _ _ _ (XA)] at h3;exact h3)
   generalize t:qe (d.map kZ).flatten=sl at CS Jg;have Gm:Hid (sl.length=32):=qI (by rw [← t,yK]);clear t;go_wp2_with first
    | (go_at_call 146;refine CS.o.mh ?_;rintro e w4 rfl Jh)
    | (refine zL Wk (.tmp 4) (.tmp 36) Wk (K.o.res.k0 Jh.o) (yu _ _) Gm.o Wk Wk ?_;intro w5 C U;have H5:=qI C;have Gj:=qI U;clear C U)
   have Y:=H5.o.var Gm.o;refine bodyPost_ret (v:=.agg (sl.map bv).toArray) (by simp only [results,results135];simp [Y,Sem.run_bind,asAddr,Act.put]) rfl ⟨by rw [Jg.o],?_⟩;exact (K.o.kept.then Jh.o).trans Gj.o (by intro i hi;simp at hi;subst hi;exact .inr (XA))
structure qG (W:World)(p:Nat)(w:World)(L:List UInt8):Prop where
 kept:zb [] W w
 new_:W.heap.size≤p
 val:∃ a c,w.heap[p]? = some (.cells #[.slice a L.length c] 125 (0,0))∧w.ownsRow W.heap.size 5 1 (.slice a L.length c) L.length (L.map bv)
theorem qG.k0 {b:World}(h:qG W p w L)(k:zb [] w b):qG W p b L:=by
 obtain⟨a,c,d,h2⟩:=h.val;exact⟨h.kept.then k,h.new_,a,c,k.heap d Wz,zk h2 k Wz⟩
theorem qG.lt (h:qG W p w L):p<w.heap.size:=by
 obtain⟨a,c,b,h2⟩:=h.val;exact lt_of_block b
theorem bu {x y:List UInt8}(h:qG W p w L)(d:x.length=32)(E:y.length=32)(I:L.length≤1000000) : Calls prog 87 #[.pointer (some ⟨p,0,none⟩),.agg (x.map bv).toArray,.agg (y.map bv).toArray] w fun e w'=>e = .returned (.tuple #[])∧qG W p w' (L++x++y):=by
 obtain⟨a,c,K,h2⟩:=h.val;have z:=h.lt;obtain⟨m,t⟩:=XE ((w.alloc (.cells (x.map bv).toArray 49)).alloc (.cells (y.map bv).toArray 49));have r:Hid (zb [] w m):=qI (kA2 t.o);have J:Hid (yy m w.heap.size x):=qI (by rw [t.o];exact ((zb.refl [] _).alloc _).heap (ze rfl) Wz);have M:Hid (yy m (w.heap.size+1) y):=qI (by rw [t.o];exact ze Wz);have s:=qI (r.o.heap K Wz);have Q:=qI (zk h2 r.o Wz);have c0:=za (o:=0) s.o rfl;have f0:=zh (o:=0) s.o;have Gh:Hid (Slc m 1 (.slice (some ⟨w.heap.size,0,none⟩) 32 32) 32 (x.map bv)):=qI ⟨by simp [d],.inr (.inr ⟨_,0,32,rfl,XA,Wo,⟨J.o.range,J.o.lt⟩⟩)⟩;have Mg:Hid (Slc m 1 (.slice (some ⟨w.heap.size+1,0,none⟩) 32 32) 32 (y.map bv)):=qI ⟨by simp [E],.inr (.inr ⟨_,0,32,rfl,XA,Wo,⟨M.o.range,M.o.lt⟩⟩)⟩;have H:=qI h;have P:=qI (And.intro d E);have Mh:=qI h2;have q:=qI I;clear h K h2 d E I z;go_enter func87,ntmps87;go_upto_region 1 with fail;rw [← t.o];have O:Hid (W.heap.size≤m.heap.size):=qI (XH H.o.kept.size r.o.size);have A:Hid (∀ i,i∈(Value.slice a L.length c).ownBlock.toList→W.heap.size≤i∧i≠p∧i<w.heap.size):=qI (fun i n=>by
  have h3:=Mh.o.lt i (XD n);exact⟨h3.1,xM (yA Q.o (XD n)) (zU s.o) Wo,h3.2⟩)
 go_region_law (first
  | (refine qc vC N.o (Mg.o.drew.kept u.o (fun g D d=>by have h3:=(A.o g d).2.2;have Z:=(vj D).2;simp [Value.ownBlock] at Z;omega)) (qE _) Wo (by have:=q.o;simp only [maxLen];omega) (XC q.o) (by have:=O.o;have:=u.o.size;simp at this;omega) Wk _ _ Wk Wk Wk ?_;intro g3 c3 B f l v;have G:=qI f;have Y:=qI l;have j:=l.heap (F.o) (U.o);have u0:=za (o:=0) j rfl;have uf:=zh (o:=0) j;have R:=qI j;clear j f l v)
  | (refine qc vC (Q.o.drew) Gh.o.drew (qE _) Wo (by have:=q.o;simp only [maxLen];omega) (XC q.o) O.o Wk _ _ Wk Wk Wk ?_;intro X c2 w2 b k C;have N:=qI b;have u:=qI k;have F:=qI (k.heap (show m.drew.heap[p]? = _ from s.o) (fun d=>(A.o p d).2.1 rfl));have U:Hid (p ∉ (Value.slice (some ⟨X,0,none⟩) (L.length+32) c2).ownBlock.toList):=qI (fun d=>xM (yA b (XD d)) (zU F.o) Wo rfl);clear b k C))
 all_goals
  go_wp2_with fail;go_end0;have ks:zb [p] B (B.setCell ⟨p,0,none⟩ (.slice (some ⟨g3,0,none⟩) (L.length+32+32) c3)):=(zb.refl _ B).setCell (.inl Wz) _;refine⟨rfl,?_,H.o.new_,?_⟩;·exact ((((H.o.kept.then r.o).drew).trans u.o (fun i n=>.inr (A.o i n).1)).trans Y.o (fun i n=>.inr (N.o.lt i (XD n)).1)).setCell (.inr H.o.new_) _
  ·have el:(L++x++y).length=L.length+32+32:=by rw [List.length_append,List.length_append,P.o.1,P.o.2]
   rw [el,List.map_append,List.map_append];exact⟨_,_,zd R.o rfl,zk G.o ks (fun g D d=>by
    simp at d;subst d;exact xM (yA G.o D) (zU R.o) Wo rfl)⟩
theorem sumsNew (w:World):qG w w.heap.size (w.alloc (.cells #[.slice none 0 0] 125)) []:=
 ⟨(zb.refl _ w).alloc _,XA,none,0,ze rfl,World.ownsRow_nil _ _ _ _⟩
theorem tag_new (b:ByteArray)(w:World)(a:List Value)(f:List (List UInt8))(d:zM (zp w) a f)(k:∀ l,l∈f→l.length≤1048576)(m:b.size≤1000)(n:a.length≤16)(i:qK w) : Calls prog 135 #[.string b,.slice (some ⟨w.heap.size,0,none⟩) a.length a.length] (w.alloc (.cells a.toArray 32)) fun e w'=>e = .returned (.agg ((JS b.data.toList f).map bv).toArray)∧zb [] w w':=by
 have j:=(zb.refl [] w).alloc (.cells a.toArray 32);refine (zaH b _ _ _ a f (yv w a 1 a.length _ _ rfl Wz (by simp only [maxLen];omega)) (d.mono (fun _ _ _ h=>h.k0 j)) k m n (i.k0 j)).mono ?_;rintro e w' ⟨p,h2⟩;exact⟨p,j.then h2⟩
theorem infoD:(Tryz.prog.info? 200).map (·.size)=some 32:=Wr
def Dig (w:World)(g:Nat)(l:List UInt8):Prop:=w.heap[g]? = some (.cells (l.map bv).toArray 200 (0,0))
theorem Dig.range {g:Nat}(h:Dig w g l):w.rangeAt g 0 (l.map bv):=fun j v hv=>by
 rw [Nat.zero_add];exact za h (by simpa using hv)
theorem Dig.there {w:World}{g:Nat}{l:List UInt8}(h:Dig w g l)(n:Nat)(a:l.length=n):w.there g 0 n:=fun j b=>by
 rw [Nat.zero_add];exact⟨by rw [za (v:=bv (l[j]'(Ws))) h (by rw [List.getElem?_toArray,List.getElem?_map,List.getElem?_eq_getElem Ws];rfl)];rfl,zh h⟩
theorem Dig.put {g:Nat}{l':List UInt8}(h:Dig w g l)(k:l'.length=l.length):Dig (w.setCells g 0 (l'.map bv)) g l':=by
 obtain⟨b,m,h2,h3⟩:=qC g (l'.map bv) 0 w _ h;have e:b=(l'.map bv).toArray:=by
  apply Array.ext;·rw [h2];simp [k]
  ·intro i a j;have f:i<l.length:=by rw [h2] at a;simpa using a
   have d:=h3 i (by simpa using f);rw [if_pos (by simp;omega),Array.getElem?_eq_getElem a] at d;rw [Nat.sub_zero,List.getElem?_eq_getElem (by simp;omega)] at d;rw [Option.some.inj d];simp
 unfold Dig;rw [m,e]
theorem wpList_storeD {d:Array Oper}{rest:List Oper}{op:Oper}{a:Act}{Q:Exit→Act→World→Prop}(f:op.guard=none)(x y:Operand)(m:op.op = .store 200 x y){g:Nat}{l0:List UInt8}(i:Dig w g l0)(e:l0.length=32)(j:l.length=32)(k:a.eval x = .pointer (some ⟨g,0,none⟩))(n:a.eval y = .agg (l.map bv).toArray)(h:∀ w',Dig w' g l→zb [g] w w'→wpList prog d Q rest (a.put op.dst undef) w'):wpList prog d Q (op::rest) a w:=by
 have b:(l.map bv).toArray.size=32:=by simp [j]
 refine wpList_store_mid f 200 x y m g 0 (l.map bv).toArray k n (by rw [b];exact i.there 32 e) (by rw [b];exact infoD) (one32 _) (h _ ?_ (yN _ _ _ _));exact i.put (by rw [j,e])
theorem Dig.var {g:Nat}(h:Dig w g l)(a:l.length=32):(loadVar 200 ⟨g,0,none⟩).run prog w = .ok (.agg (l.map bv).toArray) w:=run_loadVar_mid (P:=prog) w g 0 200 (l.map bv) _ h.range underlying200 rfl (by rw [List.length_map,a];exact infoD)
theorem lamOf_any {c:Nat}{m:List UInt8}(s:zp w (.slice a m.length c) m)(hm:m.length≤1048576)(h:qK w) : zJ w 162 #[.slice a m.length c] (.agg ((vA m).map bv).toArray):=by
 obtain⟨d,n⟩:=XE (w.alloc (.cells z32 200));have l:Hid (zb [] w d):=qI (kA1 n.o);have A:Hid (Dig d w.heap.size (qS ya 0)):=qI (by rw [n.o];exact ze rfl);have p:Hid (Calls prog 135 #[.string ⟨#[108,97,109,112,111,114,116,32,109,101,115,115,97,103,101]⟩,.slice (some ⟨d.heap.size,0,none⟩) 1 1] (d.alloc (.cells #[.slice a m.length c] 32)) fun e x=>e = .returned (.agg ((vA m).map bv).toArray)∧zb [] d x):=
  qI (tag_new ⟨#[108,97,109,112,111,114,116,32,109,101,115,115,97,103,101]⟩ d [.slice a m.length c] [m] ((zM.nil _).cons (s.k0 l.o)) (by simpa using hm) Wo (Nat.succ_le_succ (XB)) (h.k0 l.o))
 generalize k:vA m=ml at p;have q:Hid (ml.length=32):=qI (by rw [← k,zaR]);clear s hm h k;go_enter func162,ntmps162;go_upto_region 1 with fail;refine xg n.o ?_;go_wp2_with first
  | (go_at_call 135;refine p.o.mono ?_;rintro e w2 ⟨rfl,b⟩;have u:=qI b;have y:Hid (Dig w2 w.heap.size (qS ya 0)):=qI (b.heap A.o Wz);clear b)
  | (refine wpList_storeD Wk (.tmp 2) (.tmp 5) Wk y.o (yu _ _) q.o Wk Wk ?_;intro B h3 j;have t:=qI h3;have z:=qI j;clear h3 j)
 have f:=t.o.var q.o;refine bodyPost_ret (v:=.agg (ml.map bv).toArray) (by simp only [results,results162];simp [f,Sem.run_bind,asAddr,Act.put]) rfl ⟨rfl,?_⟩;exact (l.o.then u.o).trans z.o (by intro i r;simp at r;subst r;exact .inr (XA))
theorem and_one:∀ q:Fin 256,bits BinOp.and IntKind.i64 (wrap64 (q.val:Int)) 1=((q.val%2:Nat):Int):=by decide +kernel
theorem J3 (w:World)(d:List UInt8)(hd:d.length=32)(b:Nat)(m:b<256) : zJ w 163 #[.agg (d.map bv).toArray,.int .i64 b] (.int .i64 (xy d b)):=by
 obtain⟨i,f⟩:=XE (w.alloc (.cells (d.map bv).toArray 200));have k:Hid (zb [] w i):=qI (kA1 f.o);have a:b/8<d.length:=Ws;have c0:i.cell? ⟨w.heap.size,b/8,none⟩=some (.int .u8 (d.getD (b/8) 0).toNat):=by rw [f.o];refine za (ze rfl) ?_;rw [List.getElem?_toArray,List.getElem?_map,List.getElem?_eq_getElem a,List.getD,List.getElem?_eq_getElem a];rfl
 have e:=UInt8.toNat_lt (d.getD (b/8) 0);have h:Hid (xy d b=(d.getD (b/8) 0).toNat/2 ^ (7-b%8)%2):=qI rfl;generalize (d.getD (b/8) 0).toNat=x at c0 h e;clear hd a;go_enter func163,ntmps163;go_upto_region 1 with fail;rw [← f.o];go_wp2;go_ret;have l:((x:Int)/2 ^ (7-b%8))=((x/2 ^ (7-b%8):Nat):Int):=Wz;have j:=and_one ⟨x/2 ^ (7-b%8),Nat.lt_of_le_of_lt (Nat.div_le_self _ _) e⟩;simp only at j;refine⟨?_,k.o⟩;rw [h.o,← j,← l];rfl
end Go.Proofs.YtjccecajigmfkaaGreatDoor

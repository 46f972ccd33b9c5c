/- Parts of one proof, merged: XCA XCB XCC XCD XCE XCF XCG XCH. -/
import Derived.Test.YtjccecajigmfkaaGreatDoorSdQ
import Derived.Deep.RegionLaw
import Derived.Great.BuildSlice
import Derived.Great.FillDense
set_option linter.all false
set_option maxHeartbeats 12800000
set_option maxRecDepth 10000
namespace Go.Proofs.YtjccecajigmfkaaGreatDoor
open Go.Proofs.Tryz
variable {L:List UInt8}{Q:Exit→Act→World→Prop}{W:World}{a a1 a2 a5:Option Addr}{e k:Nat}{l:List UInt8}{n:Nat}{op:Oper}{ops:Array Oper}{p:Nat}{r:List (List UInt8)}{rest:List Oper}{seed:List UInt8}{w w':World}{x:List UInt8}
def jm (l:List UInt8):List UInt8:=j8 l.length 4++l
def JS (tag:List UInt8)(ps:List (List UInt8)):List UInt8:=qj ((tag::ps).map jm).flatten
theorem Zi (t:List UInt8)(ps:List (List UInt8)):(JS t ps).length=32:=yP _
def tMsg:List UInt8:=[108,97,109,112,111,114,116,32,109,101,115,115,97,103,101]
def tSec:List UInt8:=[108,97,109,112,111,114,116,32,115,101,99,114,101,116]
def tKey:List UInt8:=[108,97,109,112,111,114,116,32,107,101,121]
def tNode:List UInt8:=[109,101,114,107,108,101,32,110,111,100,101]
def vQ (m:List UInt8):List UInt8:=JS tMsg [m]
theorem zbA (m:List UInt8):(vQ m).length=32:=Zi _ _
def xB (d:List UInt8)(b:Nat):Nat:=(d.getD (b/8) 0).toNat/2 ^ (7-b%8)%2
theorem zab (d:List UInt8)(b:Nat):xB d b<2:=Nat.mod_lt _ Wo
def kL (seed:List UInt8)(leaf bit side:Nat):List UInt8:=JS tSec [seed,j8 leaf 4,j8 bit 2,[UInt8.ofNat side]]
theorem bG (seed:List UInt8)(leaf b a:Nat):(kL seed leaf b a).length=32:=Zi _ _
def duoL (seed:List UInt8)(leaf b:Nat):List UInt8:=qj (kL seed leaf b 0)++qj (kL seed leaf b 1)
def zaq (seed:List UInt8)(leaf bits:Nat):List UInt8:=JS tKey [((List.range bits).map (duoL seed leaf)).flatten]
theorem ko (seed:List UInt8)(leaf bits:Nat):(zaq seed leaf bits).length=32:=Zi _ _
structure Q4 where
 rev:List (List UInt8)
 oth:List (List UInt8)
def yU (l:List (List UInt8)):Prop:=∀ x,x∈l→x.length=32
theorem yU.nil:yU []:=fun _ h=>nomatch h
theorem yU.flat {l:List (List UInt8)}(h:yU l):l.flatten.length=l.length*32:=by
 induction l with
 | nil=>rfl
 | cons x t ih=>
  rw [Xu,XM,ih (fun y a=>h y (Xj _ a)),h x Wz,XP]
  omega
def revL (seed:List UInt8)(leaf:Nat)(m:List UInt8)(b:Nat):List UInt8:=kL seed leaf b (xB (vQ m) b)
def othL (seed:List UInt8)(leaf:Nat)(m:List UInt8)(b:Nat):List UInt8:=qj (kL seed leaf b (1-xB (vQ m) b))
def vM (seed:List UInt8)(leaf bits:Nat)(m:List UInt8):Q4:=⟨(List.range bits).map (revL seed leaf m),(List.range bits).map (othL seed leaf m)⟩
theorem signL_32 (seed:List UInt8)(leaf bits:Nat)(m:List UInt8):yU (vM seed leaf bits m).rev∧yU (vM seed leaf bits m).oth:=by
 refine⟨fun x a=>?_,fun x a=>?_⟩
 ·obtain⟨b,-,rfl⟩:=Xm.1 a
  exact bG _ _ _ _
 ·obtain⟨b,-,rfl⟩:=Xm.1 a
  exact yP _
def zaa (m:List UInt8)(o:Q4)(b:Nat):List UInt8:=
 if xB (vQ m) b=0 then qj (o.rev.getD b [])++o.oth.getD b [] else o.oth.getD b []++qj (o.rev.getD b [])
def jB (m:List UInt8)(o:Q4):List UInt8:=JS tKey [((List.range o.rev.length).map (zaa m o)).flatten]
theorem QL (m:List UInt8)(o:Q4):(jB m o).length=32:=Zi _ _
theorem impl_sign (seed:List UInt8)(leaf bits:Nat)(m:List UInt8):jB m (vM seed leaf bits m)=zaq seed leaf bits:=by
 unfold jB zaq
 have e:(vM seed leaf bits m).rev.length=bits:=by simp [vM]
 rw [e]
 congr 3
 apply un
 intro b a
 have a:=ur.1 a
 have f:(vM seed leaf bits m).rev.getD b []=revL seed leaf m b:=by
  simp [vM,List.getD,a]
 have h2:(vM seed leaf bits m).oth.getD b []=othL seed leaf m b:=by
  simp [vM,List.getD,a]
 unfold zaa duoL
 rw [f,h2,revL,othL]
 have h3:=zab (vQ m) b
 by_cases d:xB (vQ m) b=0
 ·rw [XK d,d]
 ·have h:xB (vQ m) b=1:=by omega
  rw [XJ d,h]
def vy (o:Q4)(b:Nat):List UInt8:=o.rev.getD b []++o.oth.getD b []
def vA (o:Q4):List UInt8:=((List.range o.rev.length).map (vy o)).flatten
def QT (n k:Nat)(l:List UInt8):List (List UInt8):=(List.range k).map fun i=>(l.drop (n*i)).take n
theorem zbh (n k:Nat)(l:List UInt8):(QT n k l).length=k:=by simp [QT]
theorem cutL_32 (h:l.length=n*k):∀ x,x∈QT n k l→x.length=n:=fun x d=>by
 obtain⟨i,a,rfl⟩:=Xm.1 d
 have a:=ur.1 a
 have b:n*(i+1)≤n*k:=ug n a
 rw [Nat.mul_add] at b
 simp
 omega
theorem cutL_flat (n:Nat):∀ (ls:List (List UInt8)),(∀ x,x∈ls→x.length=n)→QT n ls.length ls.flatten=ls
 | [],_=>rfl
 | x::t,h=>by
  have hx:=h x Wz
  have a:=cutL_flat n t (fun y b=>h y (Xj _ b))
  unfold QT at a ⊢
  rw [XP,List.range_succ_eq_map,Xf,uL,Xu]
  congr 1
  ·simp [← hx]
  ·conv=>rhs;rw [← a]
   apply un
   intro i _
   show List.take n (List.drop (n*(i+1)) (x++t.flatten))=_
   rw [Nat.mul_add,Nat.mul_one,Nat.add_comm,← uD]
   congr 2
   rw [← hx,List.drop_left]
def Kx (k:Nat)(l:List UInt8):Q4:=⟨(QT 64 k l).map (List.take 32),(QT 64 k l).map (List.drop 32)⟩
theorem decO_32 (h:l.length=64*k):yU (Kx k l).rev∧yU (Kx k l).oth:=by
 refine⟨fun x b=>?_,fun x b=>?_⟩
 ·obtain⟨y,a,rfl⟩:=Xm.1 b
  have:=cutL_32 h y a
  rw [Xe];omega
 ·obtain⟨y,a,rfl⟩:=Xm.1 b
  have:=cutL_32 h y a
  rw [XW];omega
theorem zbD (k:Nat)(l:List UInt8):(Kx k l).rev.length=k∧(Kx k l).oth.length=k:=by simp [Kx,zbh]
theorem v8 {o:Q4}(a:yU o.rev)(h2:yU o.oth)(e:o.oth.length=o.rev.length){b:Nat}(d:b<o.rev.length):(o.rev.getD b []).length=32∧(o.oth.getD b []).length=32:=by
 refine⟨?_,?_⟩
 ·rw [List.getD,XN d];exact a _ (XX _)
 ·rw [List.getD,XN Ws];exact h2 _ (XX _)
theorem JQ {o:Q4}(d:yU o.rev)(h2:yU o.oth)(a:o.oth.length=o.rev.length):(vA o).length=64*o.rev.length:=by
 unfold vA
 have:∀ k,k≤o.rev.length→((List.range k).map (vy o)).flatten.length=64*k:=by
  intro k
  induction k with
  | zero=>intro _;rfl
  | succ k ih=>
   intro e
   have h3:=v8 d h2 a (b:=k) Ws
   rw [VJ,Xc,X5,XM,ih Ws]
   simp only [Xf,X3,Xu,uX,Xn,vy,XM]
   omega
 exact this _ (XA)
theorem dec_code {o:Q4}(e:yU o.rev)(h2:yU o.oth)(d:o.oth.length=o.rev.length):Kx o.rev.length (vA o)=o:=by
 have hc:QT 64 o.rev.length (vA o)=(List.range o.rev.length).map (vy o):=by
  have h3:=cutL_flat 64 ((List.range o.rev.length).map (vy o)) (fun x k=>by
   obtain⟨b,j,rfl⟩:=Xm.1 k
   have f:=v8 e h2 d (ur.1 j)
   rw [vy,XM];omega)
  rw [Xb,List.length_range] at h3
  exact h3
 cases o with
 | mk rev oth=>
  simp only at d e h2 hc ⊢
  unfold Kx
  rw [hc]
  congr 1
  ·apply uZ
   ·simp
   ·intro i h a
    have f:=v8 (o:=⟨rev,oth⟩) e h2 d a
    simp only at f
    simp only [uJ,List.getElem_range,vy]
    rw [List.take_append_of_le_length Ws,Xl Ws]
    simp [List.getD,a]
  ·apply uZ
   ·simp [d]
   ·intro i h a
    have f:=v8 (o:=⟨rev,oth⟩) (b:=i) e h2 d (by simp only;omega)
    simp only at f
    simp only [uJ,List.getElem_range,vy]
    rw [List.drop_append_of_le_length Ws,List.drop_of_length_le Ws,X8]
    simp [List.getD,a]
def vw (a b:List UInt8):List UInt8:=JS tNode [a,b]
theorem QF (a b:List UInt8):(vw a b).length=32:=Zi _ _
def vd:List UInt8→Nat→List (List UInt8)→List UInt8
 | x,_,[]=>x
 | x,i,y::t=>vd (if i%2=0 then vw x y else vw y x) (i/2) t
theorem zbu:∀ (t:List (List UInt8)) (x:List UInt8) (i:Nat),x.length=32→(vd x i t).length=32
 | [],_,_,h=>h
 | y::t,x,i,_=>zbu t _ _ (by split <;> exact QF _ _)
structure SigS where
 leaf:Nat
 one:Q4
 way:List (List UInt8)
def Y3 (l:List UInt8):Nat:=l.foldl (fun n c=>n*256+c.toNat) 0
theorem numB_snoc (l:List UInt8)(c:UInt8):Y3 (l++[c])=Y3 l*256+c.toNat:=by simp [Y3]
def kH (bits height:Nat)(b:List UInt8):SigS:=⟨Y3 (b.take 4),Kx bits ((b.drop 4).take (64*bits)),QT 32 height ((b.drop (4+64*bits)).take (32*height))⟩
def bO (bits height:Nat)(b:List UInt8):Bool:=decide (b.length=4+64*bits+32*height)&&decide (Y3 (b.take 4)≤1073741824)
def verS (root:List UInt8)(m:List UInt8)(s:SigS):Bool:=decide (s.leaf<2 ^ s.way.length)&&decide (vd (jB m s.one) s.leaf s.way=root)
def xR (s:SigS):List UInt8:=j8 s.leaf 4++vA s.one++s.way.flatten
open Go.RowKit
theorem tySlices:qq prog 182 32 1 24 (.slice none 0 0):=⟨underlying182,Wr,rfl,Wo⟩
theorem growS_any (n:Nat)(w:World)(q:n≤100000) : Calls prog 229 #[.slice none 0 0,.int .i64 n] w fun e w'=>∃ v',e = .returned v'∧w'.ownsRow w.heap.size 32 1 v' 0 []∧zb [] w w':=by
 obtain⟨i,l,p,r,m⟩:=info_parts tySlices.info;by_cases t:0<n
 ·have a:=Lib.run_append_nil_zeros w 182 3 182 32 i (.slice none 0 0) .i64 .i64 underlying182 underlying3 l p n t Ws Ws (by rw [m];omega);have j:=grownCap_ge w n 0 32;have d:=grownCap_le_maxLen w n 0 32 (by simp only [maxLen];omega);have b:(Builtin.zeroCells (Value.slice none 0 0).cells n++Builtin.zeroCells (Value.slice none 0 0).cells (grownCap w n 0 32-n)).size=grownCap w n 0 32*1:=by simp only [Array.size_append,size_zeroCells];simp [Value.cells];omega
  revert a j d b;generalize grownCap w n 0 32=cap;generalize (Builtin.zeroCells (Value.slice none 0 0).cells n++Builtin.zeroCells (Value.slice none 0 0).cells (cap-n))=cs;intro a j d b;have f:=qI d;have h:=qI b;have s:(n:Int)≤100000:=Ws;have k:=qI a;clear d b q l p r m a;go_enter func229,ntmps229;go_wp2_with (at_builtin;refine Lib.wpList_append_run _ rfl _ _ _ _ rfl _ _ rfl rfl _ _ k.o ?_);go_ret;refine⟨_,rfl,⟨rfl,.inr ⟨w.heap.size,cap,cs,rfl,XA,heap_alloc_new w.drew _,XB,f.o,h.o,Wz⟩⟩,((zb.refl _ w).drew).alloc _⟩
 ·obtain rfl:n=0:=by omega
  go_enter func229,ntmps229;go_wp2;go_ret;exact⟨_,rfl,World.ownsRow_nil _ _ _ _,Wd⟩
theorem concatS_any (g o cap:Nat)(a:List Value)(b:List (List Value))(w:World)(x:Row w g o a)(q:zL (fun v l=>Slc w 1 v l.length l) a b)(W:∀ l,l∈b→∀ u∈l,u.oneCell'=true)(y:b.flatten.length≤100000)(M:a.length≤100000) : Calls prog 181 #[.slice (some ⟨g,o,none⟩) a.length cap] w fun e w'=>∃ v',e = .returned v'∧w'.ownsRow w.heap.size 32 1 v' b.flatten.length b.flatten∧zb [] w w':=by
 have J:∀ j,(b.take j).flatten.length≤100000:=fun j=>by have:=vU b j;omega
 have t:=q.1;have r:=qI J;have n:=qI t;have Q:=qI y;have H1:=qI W;have ab:(a.length:Int)≤100000:=Ws;clear J t y M W;go_enter func181,ntmps181;go_wp2_with fail;go_loop [3,11] (fun s i=>∃ k:Nat,k≤a.length∧i = .int .i64 k∧s = .int .i64 (b.take k).flatten.length) (fun _ i=>a.length-(intOf i).toNat);case atStart=>exact⟨0,XB,rfl,Wz⟩
 case round=>
  obtain⟨k,M,rfl,rfl⟩:=hrel;by_cases h:k<a.length
  ·have d:k<b.length:=by rw [← n.o];exact h
   have hc:=x.at h;have G:=q.2 k a[k] b[k] (by simp [h]) (by simp [d]);have Z:=qI G;obtain⟨a1,c1,hv,-,-⟩:=G.form;rw [hv] at hc;have A:=qI (qv b k d);have F:=r.o k;have E:=r.o (k+1);have Y:(b.take k).flatten.length+b[k].length≤100000:=by rw [A.o,XM] at E;exact E
   clear G hv E;revert F Y A;generalize I:(b.take k).flatten.length=n1;generalize H:b[k].length=n2 at hc ⊢;intro A F Y;have O:=qI I;have K:=qI H;clear I H;go_wp2_with fail;go_round;case rel=>refine⟨k+1,Ws,by go_num,?_⟩;rw [A.o,XM,O.o,K.o];go_num
   case measure=>simp [intOf];omega
  ·obtain rfl:k=a.length:=by omega
   have D:b.take a.length=b:=by rw [n.o];exact Xw
   rw [D];have l0:=r.o a.length;rw [D] at l0;clear D;revert l0;generalize U:b.flatten.length=N;intro l0;have HN:=qI U;clear U;have X:=growS_any N w l0;have R:=qI X;clear X;go_wp2_with (go_at_call 229;refine R.o.mono ?_;rintro e w1 ⟨v1,rfl,z,L⟩);clear R;go_loopw [6,27] (fun v i wr=>∃ k:Nat,k≤a.length∧i = .int .i64 k∧wr.ownsRow w.heap.size 32 1 v (b.take k).flatten.length (b.take k).flatten∧zb [] w wr) (fun _ i _=>a.length-(intOf i).toNat);case atStart=>exact⟨0,XB,rfl,by simpa using z,L⟩
   case round=>
    obtain⟨k,M,rfl,f,p⟩:=hrel;by_cases h:k<a.length
    ·have d:k<b.length:=by rw [← n.o];exact h
     have hc:=(x.kept p Wz).at h;have G:=(q.2 k a[k] b[k] (by simp [h]) (by simp [d])).k0 p;have A:=qI (qv b k d);have F:=r.o (k+1);rw [A.o,XM] at F;have E:=qI F;clear F;have B:=p.size;have m:=qI f;clear f;go_wp2_with (at_builtin;refine zz tySlices m.o G (H1.o _ (XX _)) (by have:=E.o;simp only [maxLen];omega) (XC E.o) B rfl _ _ rfl rfl rfl ?_;intro v' w2 C P _ aa);go_roundw;case rel=>
      refine⟨k+1,Ws,by go_num,?_,p.trans P ?_⟩;·rw [A.o,XM];exact C
      ·intro i hi;exact .inr ((World.ownsRow.lt m.o i (XD hi)).1)
     case measure=>simp [intOf];omega
    ·obtain rfl:k=a.length:=by omega
     have D:b.take a.length=b:=by rw [n.o];exact Xw
     rw [D] at f;have m:=qI f;clear f D;go_wp2;go_ret;exact⟨_,rfl,by rw [← HN.o];exact m.o,p⟩
theorem zbI (l:List UInt8):(jm l).length=4+l.length:=by rw [jm,XM,xy]
theorem octText_any (s:ByteArray)(n:s.size≤1048576)(w:World):Calls prog 182 #[.string s] w fun e w'=>(∃ a c,e = .returned (.tuple #[.slice a (jm s.data.toList).length c,.int .i64 0])∧qw w w' (.slice a (jm s.data.toList).length c) (jm s.data.toList))∧zb [] w w':=by
 have B:=qI (Kv s.size 4 w Wo Wo (.inr Ws));have v:Hid (s.data.toList.length=s.size):=qI Wz;have E:Hid ((jm s.data.toList).length=4+s.size):=qI (by rw [zbI,v.o]);have F:Hid (((j8 s.size 4).map bv++Lib.strCells s)=(jm s.data.toList).map bv):=qI (by rw [jm,Xc,v.o];rfl);obtain⟨D,t,i,j,l⟩:=info_parts vS.info;have x:=qI t;have m:=qI (And.intro i (And.intro j l));have z:(s.size:Int)≤1048576:=Ws;have u:=qI n;generalize q:(jm s.data.toList).length=N;have G:=qI q;clear t i j l n q;go_enter func182,ntmps182;go_wp2_with first
  | (go_at_call 96;refine B.o.mono ?_;rintro e w1 ⟨a1,c1,rfl,d,f⟩;have r:=qI d;have p:=qI f;clear d f)
  | (at_builtin;refine Lib.wpList_append_own_string _ rfl _ _ 32 9 rfl w.heap.size 5 D underlying32 underlying9 x.o m.o.1 m.o.2.1 m.o.2.2 (.slice a1 4 c1) 4 _ rfl r.o s rfl (by have:=u.o;simp only [maxLen];omega) (XC u.o) p.o.size ?_;intro v2 w2 b h _;rw [F.o,← E.o,G.o] at b;obtain⟨a2,c2,rfl,-,-⟩:=(Slc.of_row b).form;have C:=qI b;have A:=qI h;clear b h)
 go_ret2;exact⟨⟨_,_,rfl,ji C.o⟩,p.o.grown A.o (fun k y=>.inr (r.o.lt k y).1)⟩
theorem row_of_own {base:Nat}{v:Value}{xs:List Value}(h:w.ownsRow base e 1 v n xs)(m:0<n):∃ g c,v = .slice (some ⟨g,0,none⟩) n c∧base≤g∧Row w g 0 xs:=by
 have h2:=Slc.of_row h;rcases h.2 with ⟨rfl,f⟩ | ⟨g,cap,a,hv,b,k,hc,hm,p,i⟩
 ·omega
 ·subst hv;rcases h2.2 with ⟨h3,_⟩ | ⟨f,_⟩ | ⟨q,j,l,h3,-,-,d⟩
  ·cases h3
  ·omega
  ·cases h3
   exact⟨_,_,rfl,b,d⟩
theorem zaG:∀ (ls:List (List UInt8)),(∀ l,l∈ls→l.length≤1048576)→(ls.map jm).flatten.length≤1048580*ls.length
 | [],_=>by simp
 | x::t,h=>by have h1:=zaG t (fun l a=>h l (Xj _ a));have h2:=h x Wz;rw [Xf,Xu,XM,zbI,XP];omega
theorem Qg.k0 {w wr w':World}{q:Nat}{L:List UInt8}(h:Qg w q L wr)(k:zb [] wr w'):Qg w q L w':=by
 obtain⟨v,a,h2,h3⟩:=h.hash;exact⟨⟨v,a.kept k Wz,h2.k0 k,h3⟩,h.kept.then k,h.res.k0 k,h.ks.k0 k⟩
theorem of_step {wr:World}{q:Nat}{b:List UInt8}{c:Nat}(h:Qg w q L wr)(A:w.heap.size<q)(y:0<w.heap.size)(u:zm wr (.slice a b.length c) b)(z:∀ g,yt (.slice a b.length c)=some g→g≠q)(B:L.length≤100000000)(t:b.length≤100000000) : Calls prog 145 #[.pointer (some ⟨q,0,none⟩),.slice a b.length c] wr fun e w'=>e = .returned (.int .i64 b.length)∧Qg w q (L++b) w'∧zb [q] wr w':=by
 obtain⟨v,p,hv,l⟩:=h.hash;have s:=J7 wr q _ v _ _ b _ p hv l u z (Nat.le_of_lt (KT _ _)) Ws Ws Ws h.ks Ws;refine s.mono ?_;rintro e w' ⟨rfl,⟨r,j,f,m⟩,d,k⟩;rw [← YZ _ zX _ b (XA)] at j f;refine⟨rfl,⟨⟨r,?_,f,fun g x=>?_⟩,h.kept.trans d (by intro i n;simp at n;subst n;exact .inr Ws),d.heap h.res (by simp;omega),k⟩,d⟩;·rw [XM,Int.natCast_add];exact j
 ·have h2:=(m g x).1;have h3:=p.lt;omega
theorem oneCells {b:List Value}{e:List (List UInt8)}(h:zL (zm w) b e):∀ u∈b,u.oneCell'=true:=by
 intro u k;obtain⟨j,f,rfl⟩:=List.mem_iff_getElem.1 k;have d:j<e.length:=by rw [← h.1];exact f
 obtain⟨a,c,i,-,-⟩:=(h.2 j _ _ (XN f) (XN d)).form;rw [i];rfl
theorem str_bytes2 (w:World)(s:ByteArray)(i:s.size≤281474976710656):∃ n c w',(convert 9 32 (.string s)).run prog w = .ok (.slice (some ⟨w.heap.size,0,none⟩) n c) w'∧n=s.data.toList.length∧zm w' (.slice (some ⟨w.heap.size,0,none⟩) n c) s.data.toList∧zb [] w w':=by
 refine⟨_,_,_,run_bytes_of_string w 9 32 5 s underlying9 underlying32 underlying5,Wz,?_,?_⟩
 ·have d:s.data.toList.length=s.size:=by simp
  refine⟨Wz,.inr (.inr ⟨w.heap.size,0,_,by rw [d],by rw [d];exact grownCap_ge _ _ _ _,grownCap_le_maxLen _ _ _ _ (by simp only [maxLen];omega),⟨?_,?_⟩⟩)⟩
  ·intro j u e;rw [Xs,ud] at e;obtain⟨b,h,rfl⟩:=e;obtain⟨f,rfl⟩:=X6.1 h;have a:j<s.data.size:=by simpa using f
   rw [Xd];refine za (heap_alloc_new _ _) ?_;rw [bytesRow_at s _ j a];simp [bv]
  ·show w.heap.size<(w.drew.alloc _).heap.size;simp
 ·exact (zb.refl [] w).drew.alloc _
theorem zbl (f:ByteArray)(w:World)(a:Option Addr)(cap:Nat)(b:List Value)(P:List (List UInt8))(B:Slc w 1 (.slice a b.length cap) b.length b)(s:zL (zm w) b P)(hb:∀ l,l∈P→l.length≤1048576)(ht:f.size≤1000)(hn:b.length≤16)(J:kg w) : zG w 135 #[.string f,.slice a b.length cap] (.agg ((JS f.data.toList P).map bv).toArray):=by
 obtain⟨W1,Gb⟩:=XE (w.alloc (.cells z32 49));have Ga:Hid (zb [] w W1):=qI (kA1 Gb.o);have Gf:Hid (yr W1 w.heap.size (ku zX 0)):=qI (by rw [Gb.o];exact zd rfl);have Gd:=qI B;have Gh:=qI s;have Gj:=qI J;have Md:=qI (K9 J);have Me:=qI ht;have Gl:=qI hn;obtain⟨d,Gx⟩:=XE (f.data.toList::P);have Gm:Hid (∀ l,l∈d→l.length≤1048576):=qI (fun l K=>by
  rw [Gx.o] at K;rcases XY.1 K with rfl | m
  ·have:f.data.toList.length=f.size:=by simp
   omega
  ·exact hb l m)
 obtain⟨N,HN⟩:=XE (b.length+1);have Jb:Hid (d.length=N):=qI (by rw [Gx.o,XP,← s.1,HN.o]);clear B s hb ht hn J;go_enter func135,ntmps135;go_upto_region 1 with fail;refine yZ Gb.o ?_;go_upto_region 2 with (go_at_call 144;refine (new_any W1).mono ?_;rintro e w2 ⟨q,rfl,hq,Z,ai⟩;have HQ:=qI hq;have Jk:=qI Z;have Gc:=qI ai;clear hq Z ai);have Jl:Hid (w.heap.size<q):=qI (XH HQ.o Gf.o.lt);obtain⟨O,L,r,G,ad,H,I⟩:=str_bytes2 w2 f (XC Me.o);obtain⟨xs,Gq⟩:∃ xs,Hid (xs = .slice (some ⟨w2.heap.size,0,none⟩) O L::b):=⟨_,qI rfl⟩;have Mf:Hid (xs.length=N):=qI (by rw [Gq.o,HN.o];rfl);obtain⟨p,Gy⟩:=XE ((r.alloc (.cells #[.slice (some ⟨w2.heap.size,0,none⟩) O L] 32)).alloc (.cells #[.slice (some ⟨r.heap.size,0,none⟩) 1 1,.slice a b.length cap] 182));have Ge:Hid (zb [] r p):=qI (kA2 Gy.o);have Jc:Hid (zb [] w r):=qI ((Ga.o.then Gc.o).then I);have Gs:Hid (zb [] w p):=qI (Jc.o.then Ge.o);have Jm:Hid (Qg w q [] p):=qI (Qg.k0 (wr:=w2) ⟨⟨_,Jk.o,xt _ _,by simp [yt]⟩,Ga.o.then Gc.o,Gc.o.heap Gf.o Wz,Gj.o.k0 (Ga.o.then Gc.o)⟩ (I.then Ge.o));have Gt:Hid (zL (zm p) xs d):=qI (by
  rw [Gq.o,Gx.o];rw [ad] at H ⊢;exact (Gh.o.mono (fun x y _ h=>h.k0 Gs.o)).cons (H.k0 Ge.o))
 have CC:Hid (Calls prog 181 #[.slice (some ⟨r.heap.size+1,0,none⟩) 2 2] p fun e w'=>∃ v',e = .returned v'∧w'.ownsRow p.heap.size 32 1 v' N xs∧zb [] p w'):=qI (by
  have m:Slc p 1 (.slice (some ⟨r.heap.size,0,none⟩) 1 1) 1 [.slice (some ⟨w2.heap.size,0,none⟩) O L]:=by rw [Gy.o];exact (bR r (.slice (some ⟨w2.heap.size,0,none⟩) O L) _ _ rfl).k0 ((zb.refl [] _).alloc _)
  have h2:=Gd.o.k0 Gs.o;have h3:Row p (r.heap.size+1) 0 [.slice (some ⟨r.heap.size,0,none⟩) 1 1,.slice a b.length cap]:=by have M:=JM (r.alloc (.cells #[.slice (some ⟨w2.heap.size,0,none⟩) O L] 32)) [.slice (some ⟨r.heap.size,0,none⟩) 1 1,.slice a b.length cap] 182;rw [Gy.o];simpa using M
  have C:=concatS_any (r.heap.size+1) 0 2 _ [[.slice (some ⟨w2.heap.size,0,none⟩) O L],b] p h3 (zL.cons (R:=fun v l=>Slc p 1 v l.length l) m (zL.cons (R:=fun v l=>Slc p 1 v l.length l) h2 (zL.nil _))) (fun l K u hu=>by
   simp only [XY,Xi,uC] at K;rcases K with rfl | rfl
   ·simp only [XY,Xi,uC] at hu;subst hu;rfl
   ·exact oneCells Gh.o u hu) (by simp;have:=Gl.o;omega) Wz
  simp only [Xu,uX,Xn,uU,X8,XP] at C;rw [← Gq.o,← HN.o] at C;exact C)
 have an:(b.length:Int)≤16:=XC Gl.o;have am:(N:Int)≤17:=XH Gl.o HN.o;clear ad H I;go_upto_region 3 with (go_at_call 181;rw [← Gy.o];refine CC.o.mono ?_;rintro e w6 ⟨v6,rfl,t,af⟩;obtain⟨g6,c6,rfl,hg6,hr6⟩:=row_of_own t (by rw [HN.o];exact Nat.succ_pos _);have Mg:=qI hr6;have Mh:=qI hg6;have Jn:=qI af;clear t af hg6 hr6);have Mi:Hid (q<p.heap.size):=qI (by obtain⟨v,m,-⟩:=Jm.o.hash;exact m.lt);have Jo:Hid (∀ k,((d.take k).map jm).flatten.length≤18000000):=qI (fun k=>by
  have m:=zaG (d.take k) (fun l K=>Gm.o l (List.mem_of_mem_take K));have h2:(d.take k).length≤17:=by rw [Xe,Jb.o];omega
  have h3:1048580*(d.take k).length≤1048580*17:=ug _ h2;omega)
 have Mj:Hid (∀ k (h:k<xs.length) g,yt xs[k]=some g→g≠q):=qI (fun k h g D=>by
  have h2:q<w2.heap.size:=Jk.o.lt;have h3:xs[k]∈xs:=XX h;generalize xs[k]=z at h3 D;rw [Gq.o] at h3;rcases XY.1 h3 with M | M
  ·rw [M] at D;have C:=(vu D).2;simp [Value.ownBlock] at C;omega
  ·obtain⟨j,hj,C⟩:=List.mem_iff_getElem.1 M;have aj:j<P.length:=by rw [← Gh.o.1];exact hj
   rw [← C] at D;have h6:=(Gh.o.2 j _ _ (XN hj) (XN aj)).lt D;have:=Jl.o;omega)
 clear G;go_loopw [7,8,9,18] (fun _ _ _ i wr=>∃ k:Nat,i = .int .i64 k∧k≤N∧Qg w q ((d.take k).map jm).flatten wr∧zb [q] w6 wr) (fun _ _ _ i _=>N-(intOf i).toNat);case atStart=>exact⟨0,rfl,XB,Jm.o.k0 Jn.o,Wd⟩
 case round=>
  obtain⟨k,rfl,hk,ah,Q⟩:=hrel;have F:=qI ah;have Jd:=qI Q;clear ah Q;rcases Xr k N with hlt | hlt
  ·have al:(k:Int)<N:=by omega
   have E:k<xs.length:=by rw [Mf.o];exact hlt
   have ag:k<d.length:=by rw [Jb.o];exact hlt
   have c0:=Jd.o.cell (Mg.o.at E) (by have:=Mi.o;have:=Mh.o;simp;omega);rw [Xd] at c0;have Je:Hid (zm wr xs[k] d[k]):=qI (((Gt.o.2 k _ _ (XN E) (XN ag)).k0 Jn.o).kept Jd.o (fun g D=>by have:=Mj.o k E g D;simpa using this));have Jf:Hid (d[k].length≤1048576):=qI (Gm.o _ (XX _));have Jp:Hid (((d.take (k+1)).map jm).flatten=((d.take k).map jm).flatten++jm d[k]):=qI (by
    rw [XZ ag,Xc,X5];simp)
   generalize d[k]=lk at Je Jf Jp;have CT:Hid (Calls prog 182 #[.string (zw lk)] wr fun e w'=>(∃ a c,e = .returned (.tuple #[.slice a (jm lk).length c,.int .i64 0])∧qw wr w' (.slice a (jm lk).length c) (jm lk))∧zb [] wr w'):=qI (by
    have m:=octText_any (zw lk) (by rw [zZ];exact Jf.o) wr;rw [zJ] at m;exact m)
   have CW:Hid (∀ (w7:World) (a7:Option Addr) (c7:Nat),qw wr w7 (.slice a7 (jm lk).length c7) (jm lk)→zb [] wr w7→Calls prog 145 #[.pointer (some ⟨q,0,none⟩),.slice a7 (jm lk).length c7] w7 fun e w'=>e = .returned (.int .i64 (jm lk).length)∧Qg w q ((d.take (k+1)).map jm).flatten w'∧zb [q] w6 w'):=qI (fun w7 a7 c7 W A=>by
    have m:=of_step (F.o.k0 A) Jl.o Md.o W.1 (fun g D=>by have h2:=(W.2 g D).1;obtain⟨v,h3,-⟩:=F.o.hash;have M:=h3.lt;omega) (XC (Jo.o k)) (by rw [zbI];have:=Jf.o;omega);refine m.mono ?_;rintro e w' ⟨rfl,h2,h3⟩;rw [Jp.o];exact⟨rfl,h2,(Jd.o.then A).trans' h3⟩)
   have ak:=Je.o.toStr;obtain⟨va,vn,vc,U,-,-⟩:∃ a n c,xs[k] = .slice a n c∧True∧True:=by obtain⟨a,c,m,-,-⟩:=Je.o.form;exact⟨_,_,_,m,trivial,trivial⟩
   rw [U] at c0 ak;generalize (jm lk).length=tl at CT CW;clear U;go_wp2_with first
    | (go_at_call 182;refine CT.o.mono ?_;rintro e w7 ⟨⟨a7,c7,rfl,ae⟩,A⟩;have Mk:=qI ae;have Ml:=qI A;clear ae A)
    | (go_at_call 145;refine (CW.o _ _ _ Mk.o Ml.o).mono ?_;rintro e w8 ⟨rfl,aa,Y⟩;have Mm:=qI aa;have Mn:=qI Y;clear aa Y)
   case roundEnd=>exact⟨⟨k+1,by go_num,Ws,Mm.o,Mn.o⟩,by simp [intOf];omega⟩
  ·obtain rfl:k=N:=by omega
   have HT:Hid (((d.take k).map jm).flatten=(d.map jm).flatten):=qI (by rw [← Jb.o,Xw]);rw [HT.o] at F;have Jq:Hid (JS f.data.toList P=qj (d.map jm).flatten):=qI (by rw [Gx.o];rfl);have CS:Hid (zG wr 146 #[.pointer (some ⟨q,0,none⟩)] (.agg ((qj (d.map jm).flatten).map bv).toArray)):=qI (by
    obtain⟨v,m,h2,-⟩:=F.o.hash;have h3:=sum_any wr q _ v _ (d.map jm).flatten.length m h2 (KT _ _) (by have:=Jo.o k;rw [HT.o] at this;omega) F.o.ks;rw [← YZ _ zX _ _ (XA),zbs _ _ _ (XA)] at h3;exact h3)
   generalize B:qj (d.map jm).flatten=sl at CS Jq;have Gu:Hid (sl.length=32):=qI (by rw [← B,yP]);clear B;go_wp2_with first
    | (go_at_call 146;refine CS.o.mh ?_;rintro e w4 rfl Gg)
    | (refine zH Wk (.tmp 4) (.tmp 36) Wk (F.o.res.k0 Gg.o) (yp _ _) Gu.o Wk Wk ?_;intro w5 C ab;have H5:=qI C;have Ge:=qI ab;clear C ab)
   have X:=H5.o.var Gu.o;refine bodyPost_ret (v:=.agg (sl.map bv).toArray) (by simp only [results,results135];simp [X,Sem.run_bind,asAddr,Act.put]) rfl ⟨by rw [Jq.o],?_⟩;exact (F.o.kept.then Gg.o).trans Ge.o (by intro i hi;simp at hi;subst hi;exact .inr (XA))
structure qX (W:World)(p:Nat)(w:World)(L:List UInt8):Prop where
 kept:zb [] W w
 new_:W.heap.size≤p
 val:∃ a c,w.heap[p]? = some (.cells #[.slice a L.length c] 125 (0,0))∧w.ownsRow W.heap.size 5 1 (.slice a L.length c) L.length (L.map bv)
theorem qX.k0 (h:qX W p w L)(k:zb [] w w'):qX W p w' L:=by
 obtain⟨a,c,b,h2⟩:=h.val;exact⟨h.kept.then k,h.new_,a,c,k.heap b Wz,zk h2 k Wz⟩
theorem qX.lt (h:qX W p w L):p<w.heap.size:=by
 obtain⟨a,c,b,h2⟩:=h.val;exact lt_of_block b
theorem bW {y:List UInt8}(h:qX W p w L)(d:x.length=32)(v:y.length=32)(Q:L.length≤1000000) : Calls prog 87 #[.pointer (some ⟨p,0,none⟩),.agg (x.map bv).toArray,.agg (y.map bv).toArray] w fun e w'=>e = .returned (.tuple #[])∧qX W p w' (L++x++y):=by
 obtain⟨a,c,M,h2⟩:=h.val;have u:=h.lt;obtain⟨l,s⟩:=XE ((w.alloc (.cells (x.map bv).toArray 49)).alloc (.cells (y.map bv).toArray 49));have r:Hid (zb [] w l):=qI (kA2 s.o);have N:Hid (yr l w.heap.size x):=qI (by rw [s.o];exact ((zb.refl [] _).alloc _).heap (zd rfl) Wz);have I:Hid (yr l (w.heap.size+1) y):=qI (by rw [s.o];exact zd Wz);have q:=qI (r.o.heap M Wz);have K:=qI (zk h2 r.o Wz);have c0:=za (o:=0) q.o rfl;have f0:=zh (o:=0) q.o;have Gq:Hid (Slc l 1 (.slice (some ⟨w.heap.size,0,none⟩) 32 32) 32 (x.map bv)):=qI ⟨by simp [d],.inr (.inr ⟨_,0,32,rfl,XA,Wo,⟨N.o.range,N.o.lt⟩⟩)⟩;have U:Hid (Slc l 1 (.slice (some ⟨w.heap.size+1,0,none⟩) 32 32) 32 (y.map bv)):=qI ⟨by simp [v],.inr (.inr ⟨_,0,32,rfl,XA,Wo,⟨I.o.range,I.o.lt⟩⟩)⟩;have H:=qI h;have J:=qI (And.intro d v);have Mp:=qI h2;have t:=qI Q;clear h M h2 d v Q u;go_enter func87,ntmps87;go_upto_region 1 with fail;rw [← s.o];have O:Hid (W.heap.size≤l.heap.size):=qI (XH H.o.kept.size r.o.size);have C:Hid (∀ i,i∈(Value.slice a L.length c).ownBlock.toList→W.heap.size≤i∧i≠p∧i<w.heap.size):=qI (fun i n=>by
  have h3:=Mp.o.lt i (XD n);exact⟨h3.1,xP (yw K.o (XD n)) (zQ q.o) Wo,h3.2⟩)
 go_region_law (first
  | (refine xK vS P.o (U.o.drew.kept z.o (fun g B d=>by have h3:=(C.o g d).2.2;have h4:=(vu B).2;simp [Value.ownBlock] at h4;omega)) (qr _) Wo (by have:=t.o;simp only [maxLen];omega) (XC t.o) (by have:=O.o;have:=z.o.size;simp at this;omega) Wk _ _ Wk Wk Wk ?_;intro g3 c3 D f k A;have G:=qI f;have Gk:=qI k;have j:=k.heap (F.o) (Y.o);have u0:=za (o:=0) j rfl;have uf:=zh (o:=0) j;have R:=qI j;clear j f k A)
  | (refine xK vS (K.o.drew) Gq.o.drew (qr _) Wo (by have:=t.o;simp only [maxLen];omega) (XC t.o) O.o Wk _ _ Wk Wk Wk ?_;intro X c2 w2 b m E;have P:=qI b;have z:=qI m;have F:=qI (m.heap (show l.drew.heap[p]? = _ from q.o) (fun d=>(C.o p d).2.1 rfl));have Y:Hid (p ∉ (Value.slice (some ⟨X,0,none⟩) (L.length+32) c2).ownBlock.toList):=qI (fun d=>xP (yw b (XD d)) (zQ F.o) Wo rfl);clear b m E))
 all_goals
  go_wp2_with fail;go_end0;have ks:zb [p] D (D.setCell ⟨p,0,none⟩ (.slice (some ⟨g3,0,none⟩) (L.length+32+32) c3)):=(zb.refl _ D).setCell (.inl Wz) _;refine⟨rfl,?_,H.o.new_,?_⟩;·exact ((((H.o.kept.then r.o).drew).trans z.o (fun i n=>.inr (C.o i n).1)).trans Gk.o (fun i n=>.inr (P.o.lt i (XD n)).1)).setCell (.inr H.o.new_) _
  ·have Z:(L++x++y).length=L.length+32+32:=by rw [XM,XM,J.o.1,J.o.2]
   rw [Z,Xc,Xc];exact⟨_,_,ze R.o rfl,zk G.o ks (fun g B d=>by
    simp at d;subst d;exact xP (yw G.o B) (zQ R.o) Wo rfl)⟩
theorem sumsNew (w:World):qX w w.heap.size (w.alloc (.cells #[.slice none 0 0] 125)) []:=
 ⟨(zb.refl _ w).alloc _,XA,none,0,zd rfl,World.ownsRow_nil _ _ _ _⟩
theorem tag_new (b:ByteArray)(w:World)(a:List Value)(f:List (List UInt8))(d:zL (zm w) a f)(n:∀ l,l∈f→l.length≤1048576)(k:b.size≤1000)(p:a.length≤16)(j:kg w) : Calls prog 135 #[.string b,.slice (some ⟨w.heap.size,0,none⟩) a.length a.length] (w.alloc (.cells a.toArray 32)) fun e w'=>e = .returned (.agg ((JS b.data.toList f).map bv).toArray)∧zb [] w w':=by
 have i:=(zb.refl [] w).alloc (.cells a.toArray 32);refine (zbl b _ _ _ a f (yE w a 1 a.length _ _ rfl Wz (by simp only [maxLen];omega)) (d.mono (fun _ _ _ h=>h.k0 i)) n k p (j.k0 i)).mono ?_;rintro e w' ⟨m,h2⟩;exact⟨m,i.then h2⟩
theorem infoD:(Tryz.prog.info? 200).map (·.size)=some 32:=Wr
def Dig (w:World)(g:Nat)(l:List UInt8):Prop:=w.heap[g]? = some (.cells (l.map bv).toArray 200 (0,0))
theorem Dig.range {g:Nat}(h:Dig w g l):w.rangeAt g 0 (l.map bv):=fun j v hv=>by
 rw [Xd];exact za h (by simpa using hv)
theorem Dig.there {w:World}{g:Nat}{l:List UInt8}(h:Dig w g l)(n:Nat)(b:l.length=n):w.there g 0 n:=fun j a=>by
 rw [Xd];exact⟨by rw [za (v:=bv (l[j]'(Ws))) h (by rw [uB,Xs,XN Ws];rfl)];rfl,zh h⟩
theorem Dig.put {g:Nat}{l':List UInt8}(h:Dig w g l)(j:l'.length=l.length):Dig (w.setCells g 0 (l'.map bv)) g l':=by
 obtain⟨b,k,h2,h3⟩:=qN g (l'.map bv) 0 w _ h;have e:b=(l'.map bv).toArray:=by
  apply Array.ext;·rw [h2];simp [j]
  ·intro i a m;have f:i<l.length:=by rw [h2] at a;simpa using a
   have d:=h3 i (by simpa using f);rw [XK (by simp;omega),uh a] at d;rw [Nat.sub_zero,XN (by simp;omega)] at d;rw [Option.some.inj d];simp
 unfold Dig;rw [k,e]
theorem wpList_storeD {a:Act}(e:op.guard=none)(x y:Operand)(m:op.op = .store 200 x y){g:Nat}{l0:List UInt8}(i:Dig w g l0)(d:l0.length=32)(f:l.length=32)(k:a.eval x = .pointer (some ⟨g,0,none⟩))(j:a.eval y = .agg (l.map bv).toArray)(h:∀ w',Dig w' g l→zb [g] w w'→wpList prog ops Q rest (a.put op.dst undef) w'):wpList prog ops Q (op::rest) a w:=by
 have b:(l.map bv).toArray.size=32:=by simp [f]
 refine wpList_store_mid e 200 x y m g 0 (l.map bv).toArray k j (by rw [b];exact i.there 32 d) (by rw [b];exact infoD) (one32 _) (h _ ?_ (yO _ _ _ _));exact i.put (by rw [f,d])
theorem Dig.var {g:Nat}(h:Dig w g l)(a:l.length=32):(loadVar 200 ⟨g,0,none⟩).run prog w = .ok (.agg (l.map bv).toArray) w:=run_loadVar_mid (P:=prog) w g 0 200 (l.map bv) _ h.range underlying200 rfl (by rw [Xb,a];exact infoD)
theorem lamOf_any {c:Nat}{m:List UInt8}(q:zm w (.slice a m.length c) m)(hm:m.length≤1048576)(f:kg w) : zG w 162 #[.slice a m.length c] (.agg ((vQ m).map bv).toArray):=by
 obtain⟨d,n⟩:=XE (w.alloc (.cells z32 200));have l:Hid (zb [] w d):=qI (kA1 n.o);have u:Hid (Dig d w.heap.size (ku zX 0)):=qI (by rw [n.o];exact zd rfl);have s:Hid (Calls prog 135 #[.string ⟨#[108,97,109,112,111,114,116,32,109,101,115,115,97,103,101]⟩,.slice (some ⟨d.heap.size,0,none⟩) 1 1] (d.alloc (.cells #[.slice a m.length c] 32)) fun e w'=>e = .returned (.agg ((vQ m).map bv).toArray)∧zb [] d w'):=
  qI (tag_new ⟨#[108,97,109,112,111,114,116,32,109,101,115,115,97,103,101]⟩ d [.slice a m.length c] [m] ((zL.nil _).cons (q.k0 l.o)) (by simpa using hm) Wo (Nat.succ_le_succ (XB)) (f.k0 l.o))
 generalize h:vQ m=ml at s;have r:Hid (ml.length=32):=qI (by rw [← h,zbA]);clear q hm f h;go_enter func162,ntmps162;go_upto_region 1 with fail;refine yZ n.o ?_;go_wp2_with first
  | (go_at_call 135;refine s.o.mono ?_;rintro e w2 ⟨rfl,b⟩;have y:=qI b;have x:Hid (Dig w2 w.heap.size (ku zX 0)):=qI (b.heap u.o Wz);clear b)
  | (refine wpList_storeD Wk (.tmp 2) (.tmp 5) Wk x.o (yp _ _) r.o Wk Wk ?_;intro A h3 j;have t:=qI h3;have z:=qI j;clear h3 j)
 have k:=t.o.var r.o;refine bodyPost_ret (v:=.agg (ml.map bv).toArray) (by simp only [results,results162];simp [k,Sem.run_bind,asAddr,Act.put]) rfl ⟨rfl,?_⟩;exact (l.o.then y.o).trans z.o (by intro i p;simp at p;subst p;exact .inr (XA))
theorem and_one:∀ q:Fin 256,bits BinOp.and IntKind.i64 (wrap64 (q.val:Int)) 1=((q.val%2:Nat):Int):=by decide +kernel
theorem zas (w:World)(d:List UInt8)(hd:d.length=32)(b:Nat)(m:b<256) : zG w 163 #[.agg (d.map bv).toArray,.int .i64 b] (.int .i64 (xB d b)):=by
 obtain⟨j,f⟩:=XE (w.alloc (.cells (d.map bv).toArray 200));have l:Hid (zb [] w j):=qI (kA1 f.o);have a:b/8<d.length:=Ws;have c0:j.cell? ⟨w.heap.size,b/8,none⟩=some (.int .u8 (d.getD (b/8) 0).toNat):=by rw [f.o];refine za (zd rfl) ?_;rw [uB,Xs,XN a,List.getD,XN a];rfl
 have e:=uk (d.getD (b/8) 0);have h:Hid (xB d b=(d.getD (b/8) 0).toNat/2 ^ (7-b%8)%2):=qI rfl;generalize (d.getD (b/8) 0).toNat=x at c0 h e;clear hd a;go_enter func163,ntmps163;go_upto_region 1 with fail;rw [← f.o];go_wp2;go_ret;have k:((x:Int)/2 ^ (7-b%8))=((x/2 ^ (7-b%8):Nat):Int):=Wz;have i:=and_one ⟨x/2 ^ (7-b%8),Nat.lt_of_le_of_lt (Nat.div_le_self _ _) e⟩;simp only at i;refine⟨?_,l.o⟩;rw [h.o,← i,← k];rfl
theorem zb5 {c:Nat}(L:zm w (.slice a seed.length c) seed)(P:seed.length≤64)(leaf d b:Nat)(z:leaf<4294967296)(t:d<65536)(G:b<256)(x:kg w) : zG w 89 #[.slice a seed.length c,.int .i64 leaf,.int .i64 d,.int .i64 b] (.agg ((kL seed leaf d b).map bv).toArray):=by
 obtain⟨D,J⟩:=XE (w.alloc (.cells z32 49));have r:Hid (zb [] w D):=qI (kA1 J.o);have Gf:Hid (yr D w.heap.size (ku zX 0)):=qI (by rw [J.o];exact zd rfl);have F:=qI (Kk leaf 4 D Wo Wo (.inr z));have H:=qI (fun w2=>Kk d 2 w2 Wo Wo (.inr t));have W:=qI P;have HB:=qI (L.k0 r.o);have Gj:=qI (x.k0 r.o);have K:Hid (∀ (f:World) (q a2:Option Addr) (c4 c2:Nat),zb [] D f→zm f (.slice q 4 c4) (j8 leaf 4)→zm f (.slice a2 2 c2) (j8 d 2)→Calls prog 135 #[.string ⟨#[108,97,109,112,111,114,116,32,115,101,99,114,101,116]⟩,.slice (some ⟨f.heap.size+1,0,none⟩) 4 4] ((f.alloc (.cells #[.int .u8 (b:Int)] 5)).alloc (.cells #[.slice a seed.length c,.slice q 4 c4,.slice a2 2 c2,.slice (some ⟨f.heap.size,0,none⟩) 1 1] 32)) fun e w'=>e = .returned (.agg ((kL seed leaf d b).map bv).toArray)∧zb [] f w'):=qI (fun f q a2 c4 c2 O h4 h2=>by
  have h:=(zb.refl [] f).alloc (.cells #[.int .u8 (b:Int)] 5);have k:zm (f.alloc (.cells #[.int .u8 (b:Int)] 5)) (.slice (some ⟨f.heap.size,0,none⟩) 1 1) [UInt8.ofNat b]:=by
   have M:=bR f (bv (UInt8.ofNat b)) 5 _ rfl;have U:bv (UInt8.ofNat b) = .int .u8 (b:Int):=by rw [zcc,Int.emod_eq_of_lt Ws Ws]
   rw [U] at M;exact⟨rfl,by rw [Xf,X3,U];exact M.2⟩
  have B:=tag_new ⟨#[108,97,109,112,111,114,116,32,115,101,99,114,101,116]⟩ (f.alloc (.cells #[.int .u8 (b:Int)] 5)) [.slice a seed.length c,.slice q 4 c4,.slice a2 2 c2,.slice (some ⟨f.heap.size,0,none⟩) 1 1] [seed,j8 leaf 4,j8 d 2,[UInt8.ofNat b]]
   (zL.cons (R:=zm _) ((HB.o.k0 O).k0 h) (zL.cons (R:=zm _) (by have p:=h4.k0 h;unfold zm;rw [xy];unfold zm at p;rw [xy] at p;exact p) (zL.cons (R:=zm _) (by have p:=h2.k0 h;unfold zm;rw [xy];unfold zm at p;rw [xy] at p;exact p) (zL.cons (R:=zm _) k (zL.nil _))))) (fun l z=>by
    have:=W.o;simp only [XY,Xi,uC] at z;rcases z with rfl | rfl | rfl | rfl
    ·omega
    ·rw [xy];decide
    ·rw [xy];decide
    ·exact Nat.le_of_ble_eq_true rfl) Wo (Nat.le_of_ble_eq_true rfl) ((Gj.o.k0 O).k0 h)
  have Y:(f.alloc (.cells #[.int .u8 (b:Int)] 5)).heap.size=f.heap.size+1:=Wz;rw [Y] at B;exact B.mono fun e w' ⟨h6,h7⟩=>⟨h6,h.then h7⟩)
 generalize y:kL seed leaf d b=sl at K;have N:Hid (sl.length=32):=qI (by rw [← y,bG]);have r:=r;have aa:(b:Int)<256:=Ws;generalize seed.length=sn at K;clear L x P y z t G;go_enter func89,ntmps89;go_upto_region 1 with fail;refine yZ J.o ?_;go_upto_region 2 with (go_at_call 96;refine F.o.mono ?_;rintro e w2 ⟨v4,rfl,m,C⟩;obtain⟨q,c4,rfl,-,-⟩:=m.1.form;rw [xy] at m ⊢;have Ms:=qI m;have I:=qI C;clear m C);go_upto_region 3 with (go_at_call 96;refine (H.o w2).mono ?_;rintro e f ⟨v2,rfl,j,s⟩;obtain⟨a2,c2,rfl,-,-⟩:=j.1.form;rw [xy] at j ⊢;have Jh:=qI j;have E:=qI s;clear j s);have Mt:Hid (zm f (.slice q 4 c4) (j8 leaf 4)):=qI (by have k:=Ms.o.1;unfold zm at k ⊢;rw [xy] at k ⊢;exact k.k0 E.o);have X:Hid (zm f (.slice a2 2 c2) (j8 d 2)):=qI (by have k:=Jh.o.1;unfold zm at k ⊢;rw [xy] at k ⊢;exact k);go_wp2_with first
  | (go_at_call 135;refine (K.o _ _ _ _ _ (I.o.then E.o) Mt.o X.o).mono ?_;rintro e w4 ⟨rfl,n⟩;have Z:=qI n;have Gp:=qI (Gf.o.k0 ((I.o.then E.o).then n));clear n)
  | (refine zH Wk (.tmp 8) (.tmp 30) Wk Gp.o (yp _ _) N.o Wk Wk ?_;intro w5 B A;have H5:=qI B;have Ge:=qI A;clear B A)
 have u:=H5.o.var N.o;refine bodyPost_ret (v:=.agg (sl.map bv).toArray) (by simp only [results,results89];simp [u,Sem.run_bind,asAddr,Act.put]) rfl ⟨rfl,?_⟩;exact (r.o.then ((I.o.then E.o).then Z.o)).trans Ge.o (by intro i Q;simp at Q;subst Q;exact .inr (XA))
theorem Z3 (w:World)(s:List UInt8)(u:s.length=32)(j:kg w) : zG w 88 #[.agg (s.map bv).toArray] (.agg ((qj s).map bv).toArray):=by
 obtain⟨a,l⟩:=XE ((w.alloc (.cells (s.map bv).toArray 49)).alloc (.cells z32 49));have x:Hid (zb [] w a):=qI (kA2 l.o);have z:Hid (yr a (w.heap.size+1) (ku zX 0)):=qI (by rw [l.o];exact zd Wz);have p:Hid (yr a w.heap.size s):=qI (by rw [l.o];exact ((zb.refl [] _).alloc _).heap (zd rfl) Wz);have q:Hid (Calls prog 98 #[.slice (some ⟨a.heap.size,0,none⟩) 1 1] (a.alloc (.cells #[.slice (some ⟨w.heap.size,0,none⟩) 32 32] 32)) fun e w'=>e = .returned (.agg ((qj s).map bv).toArray)∧zb [] a w'):=qI (by
  have b:=(zb.refl [] a).alloc (.cells #[.slice (some ⟨w.heap.size,0,none⟩) 32 32] 32);have y:zm a (.slice (some ⟨w.heap.size,0,none⟩) 32 32) s:=⟨Wz,.inr (.inr ⟨_,0,32,by rw [u],Ws,Wo,⟨p.o.range,p.o.lt⟩⟩)⟩;have m:=of_any _ a.heap.size 0 1 [.slice (some ⟨w.heap.size,0,none⟩) 32 32] [s] (JM a [.slice (some ⟨w.heap.size,0,none⟩) 32 32] _) ((zL.nil _).cons (y.k0 b)) (by simp;omega) Wz ((j.k0 x.o).k0 b);rw [Xu,uX,Xn] at m;exact m.mono fun e w' ⟨h6,h7⟩=>⟨h6,b.then h7⟩)
 generalize f:qj s=sl at q;have r:Hid (sl.length=32):=qI (by rw [← f,yP]);clear u j f;go_enter func88,ntmps88;go_upto_region 1 with fail;refine yZ l.o ?_;go_wp2_with first
  | (go_at_call 98;refine q.o.mono ?_;rintro e E ⟨rfl,d⟩;have B:=qI d;have D:=qI (z.o.k0 d);clear d)
  | (refine zH Wk (.tmp 2) (.tmp 5) Wk D.o (yp _ _) r.o Wk Wk ?_;intro w5 t h;have C:=qI t;have A:=qI h;clear t h)
 have k:=C.o.var r.o;refine bodyPost_ret (v:=.agg (sl.map bv).toArray) (by simp only [results,results88];simp [k,Sem.run_bind,asAddr,Act.put]) rfl ⟨rfl,?_⟩;exact (x.o.then B.o).trans A.o (by intro i n;simp at n;subst n;exact .inr Ws)
theorem Y5 (h:qX W p w L)(C:L.length≤1000000)(k:kg w) : zG w 90 #[.pointer (some ⟨p,0,none⟩)] (.agg ((JS tKey [L]).map bv).toArray):=by
 obtain⟨a,c,r,h2⟩:=h.val;obtain⟨d,n⟩:=XE (w.alloc (.cells z32 49));have m:Hid (zb [] w d):=qI (kA1 n.o);have x:Hid (yr d w.heap.size (ku zX 0)):=qI (by rw [n.o];exact zd rfl);have q:Hid (Calls prog 135 #[.string ⟨#[108,97,109,112,111,114,116,32,107,101,121]⟩,.slice (some ⟨d.heap.size,0,none⟩) 1 1] (d.alloc (.cells #[.slice a L.length c] 32)) fun e w'=>e = .returned (.agg ((JS tKey [L]).map bv).toArray)∧zb [] d w'):=
  qI (tag_new ⟨#[108,97,109,112,111,114,116,32,107,101,121]⟩ d [.slice a L.length c] [L] ((zL.nil _).cons ((Slc.of_row h2).k0 m.o)) (by simp;omega) Wo (Nat.succ_le_succ (XB)) (k.k0 m.o))
 have c0:=za (o:=0) (m.o.heap r Wz) rfl;generalize f:JS tKey [L]=sl at q;have t:Hid (sl.length=32):=qI (by rw [← f,Zi]);clear h r h2 C k f;generalize L.length=ln at q c0;go_enter func90,ntmps90;go_upto_region 1 with fail;refine yZ n.o ?_;go_wp2_with first
  | (go_at_call 135;refine q.o.mono ?_;rintro e D ⟨rfl,b⟩;have z:=qI b;have B:=qI (x.o.k0 b);clear b)
  | (refine zH Wk (.tmp 2) (.tmp 8) Wk B.o (yp _ _) t.o Wk Wk ?_;intro w5 u j;have A:=qI u;have y:=qI j;clear u j)
 have l:=A.o.var t.o;refine bodyPost_ret (v:=.agg (sl.map bv).toArray) (by simp only [results,results90];simp [l,Sem.run_bind,asAddr,Act.put]) rfl ⟨rfl,?_⟩;exact (m.o.then z.o).trans y.o (by intro i s;simp at s;subst s;exact .inr (XA))
theorem za8 {c:Nat}(h:n≤64)(leaf:Nat)(b:leaf≤1073741824) : Calls prog 86 #[.slice a n c,.int .i64 leaf] w fun e w'=>e = .returned (.bool true)∧w=w':=by
 have f:(n:Int)≤64:=Ws;have d:(leaf:Int)≤1073741824:=Ws;clear h b;go_enter func86,ntmps86;go_wp2;go_ret;exact⟨rfl,rfl⟩
theorem duo_len (seed:List UInt8)(leaf b:Nat):(duoL seed leaf b).length=64:=by rw [duoL,XM,yP,yP]
theorem zb3 {α:Type}(f:Nat→List α)(n:Nat)(h:∀ b,(f b).length=n):∀ k,(((List.range k).map f).flatten).length=n*k
 | 0=>rfl
 | k+1=>by rw [VJ,Xc,X5,XM,zb3 f n h k];simp [h,Nat.mul_add]
theorem ZE {α:Type}(f:Nat→List α)(k:Nat):((List.range (k+1)).map f).flatten=((List.range k).map f).flatten++f k:=by
 rw [VJ,Xc,X5];simp
theorem lamLeaf_any {c:Nat}(J:zm w (.slice a seed.length c) seed)(F:seed.length≤64)(leaf:Nat)(hl:leaf≤1000)(s:kg w) : zG w 46 #[.slice a seed.length c,.int .i64 leaf,.int .i64 8] (.tuple #[.agg ((zaq seed leaf 8).map bv).toArray,.int .i64 0]):=by
 obtain⟨f,H⟩:=XE (w.alloc (.cells z32 49));have G:Hid (zb [] w f):=qI (kA1 H.o);have Gf:Hid (yr f w.heap.size (ku zX 0)):=qI (by rw [H.o];exact zd rfl);have CM:Hid (Calls prog 85 #[.int .i64 8] f fun e w'=>e = .returned (.bool true)∧f=w'):=qI (bp 8 Wo Wo f);have N:=qI (za8 (w:=f) (a:=a) (c:=c) F leaf Ws);have X:=qI F;have HB:=qI (J.k0 G.o);have A:=qI (s.k0 G.o);have D:Hid (∀ (j:World) (b d:Nat),zb [] f j→b<8→d<2→Calls prog 89 #[.slice a seed.length c,.int .i64 leaf,.int .i64 b,.int .i64 d] j fun e w'=>e = .returned (.agg ((kL seed leaf b d).map bv).toArray)∧zb [] j w'):=qI (fun j b d E O h2=>zb5 (HB.o.k0 E) X.o leaf b d Ws Ws Ws (A.o.k0 E));clear J F hl s;go_enter func46,ntmps46;go_upto_region 1 with fail;refine yZ H.o ?_;generalize aa:seed.length=sn at N D;go_wp2_with first
  | (go_at_call 85;refine CM.o.mono ?_;rintro e w' ⟨rfl,rfl⟩)
  | (go_at_call 86;refine N.o.mono ?_;rintro e w' ⟨rfl,rfl⟩)
 obtain⟨W2,W⟩:=XE (f.alloc (.cells #[.slice none 0 0] 125));have Mu:Hid (qX f f.heap.size W2 []):=qI (by rw [W.o];exact sumsNew f);rw [← W.o];go_loopw [9,23] (fun _ i wr=>∃ k:Nat,i = .int .i64 k∧k≤8∧qX f f.heap.size wr ((List.range k).map (duoL seed leaf)).flatten) (fun _ i _=>8-(intOf i).toNat);case atStart=>exact⟨0,rfl,XB,Mu.o⟩
 case round=>
  obtain⟨k,rfl,E,x⟩:=hrel;have l:=qI x;have K:=qI (zb3 (duoL seed leaf) 64 (duo_len seed leaf) k);have Y:=qI (ZE (duoL seed leaf) k);clear x;rcases Xr k 8 with h8 | h8
  ·have ab:(k:Int)<8:=by omega
   have u:=qI (D.o wr k 0 l.o.kept h8 Wo);have r:Hid (xz wr 89 #[.slice a sn c,.int .i64 leaf,.int .i64 k,.int .i64 1] (.agg ((kL seed leaf k 1).map bv).toArray)):=qI (fun j h=>D.o j k 1 (l.o.kept.then h) h8 Wo);have q:Hid (xz wr 88 #[.agg ((kL seed leaf k 0).map bv).toArray] (.agg ((qj (kL seed leaf k 0)).map bv).toArray)):=qI (fun j h=>Z3 j _ (bG _ _ _ _) ((A.o.k0 l.o.kept).k0 h));have n:Hid (xz wr 88 #[.agg ((kL seed leaf k 1).map bv).toArray] (.agg ((qj (kL seed leaf k 1)).map bv).toArray)):=qI (fun j h=>Z3 j _ (bG _ _ _ _) ((A.o.k0 l.o.kept).k0 h));have C:Hid (∀ j,zb [] wr j→Calls prog 87 #[.pointer (some ⟨f.heap.size,0,none⟩),.agg ((qj (kL seed leaf k 0)).map bv).toArray,.agg ((qj (kL seed leaf k 1)).map bv).toArray] j fun e w'=>e = .returned (.tuple #[])∧qX f f.heap.size w' ((List.range (k+1)).map (duoL seed leaf)).flatten):=qI (fun j h=>by
    have O:=bW (l.o.k0 h) (yP (kL seed leaf k 0)) (yP (kL seed leaf k 1)) (XC K.o);rw [Y.o,duoL,← Xv];exact O)
   generalize qj (kL seed leaf k 0)=u0 at q C;generalize qj (kL seed leaf k 1)=u1 at n C;generalize kL seed leaf k 0=s0 at u q;generalize kL seed leaf k 1=s1 at r n;go_wp2_with first
    | (go_at_call 87;refine (C.o _ (((B.o.then I.o).then U.o).then Mw.o)).mono ?_;rintro e w7 ⟨rfl,L⟩;have H7:=qI L;clear L)
    | (go_at_call 88;refine (n.o _ ((B.o.then I.o).then U.o)).mono ?_;rintro e w6 ⟨rfl,h6⟩;have Mw:=qI h6;clear h6)
    | (go_at_call 89;refine (r.o _ (B.o.then I.o)).mono ?_;rintro e w5 ⟨rfl,z⟩;have U:=qI z;clear z)
    | (go_at_call 88;refine (q.o _ B.o).mono ?_;rintro e w4 ⟨rfl,R⟩;have I:=qI R;clear R)
    | (go_at_call 89;refine u.o.mono ?_;rintro e j ⟨rfl,h3⟩;have B:=qI h3;clear h3)
   case roundEnd=>exact⟨⟨k+1,by go_num,Ws,H7.o⟩,by simp [intOf];omega⟩
  ·obtain rfl:k=8:=by omega
   have Q:Hid (zG wr 90 #[.pointer (some ⟨f.heap.size,0,none⟩)] (.agg ((zaq seed leaf 8).map bv).toArray)):=qI (Y5 l.o (XC K.o) (A.o.k0 l.o.kept));generalize p:zaq seed leaf 8=sl at Q;have M:Hid (sl.length=32):=qI (by rw [← p,ko]);have Mx:=qI (Gf.o.k0 l.o.kept);have My:=qI p;clear p;go_wp2_with first
    | (go_at_call 90;refine Q.o.mono ?_;rintro e w4 ⟨rfl,m⟩;have Z:=qI m;have Gp:=qI (Mx.o.k0 m);clear m)
    | (refine zH Wk (.tmp 6) (.tmp 40) Wk Gp.o (yp _ _) M.o Wk Wk ?_;intro w5 z y;have H5:=qI z;have Ge:=qI y;clear z y)
   have t:=H5.o.var M.o;refine bodyPost_ret (v:=.tuple #[.agg (sl.map bv).toArray,.int .i64 0]) (by simp only [results,results46];simp [t,Sem.run_bind,asAddr,Act.put]) rfl ⟨by rw [My.o],?_⟩;exact ((G.o.then l.o.kept).then Z.o).trans Ge.o (by intro i P;simp at P;subst P;exact .inr (XA))
theorem ty32:qq prog 78 49 32 32 (.agg z32):=⟨underlying78,Wr,rfl,Wo⟩
theorem zbe {cs:List Value}(h:cs.length=n)(e:0<n)(z:Value):Instr.fill (fun i=>some (i*n,n)) ((Array.range (1*n)).map (z.cells[· % z.cells.size]!)) [(0,.agg cs.toArray)]=some cs.toArray:=by
 have b:cs.toArray.size=n:=by simp [h]
 obtain⟨r,d,h2,h3⟩:=Go.Great.fill_dense (s:=n) e [.agg cs.toArray] 0 ((Array.range (1*n)).map (z.cells[· % z.cells.size]!)) (by intro v hv;simp only [XS] at hv;subst hv;exact b) Wz;refine d.trans (congrArg some (Array.ext_getElem? fun i=>?_));rw [h3 i];by_cases a:i<n;·rw [XK (by simp;omega),show i/n-0=0 by rw [Nat.div_eq_of_lt a],show i%n=i from Nat.mod_eq_of_lt a];rfl
 ·rw [XJ (by simp;omega),Xy (by rw [Array.size_map,Array.size_range];omega),Xy (by rw [b];omega)]
theorem ki {t:Nat}(p:Tryz.prog.underlying t=some (.slice e))(i:(Tryz.prog.info? e).map (·.size)=some n)(j:((Tryz.prog.info? e).bind (·.zero)).isSome=true)(r:0<n)(hm:n≤1000){a:Act}(k:op.guard=none)(x:Operand)(u:op.op = .buildSlice t 1 #[(0,x)]){cs:List Value}(q:cs.length=n)(s:a.eval x = .agg cs.toArray)(h:wpList prog ops Q rest (a.put op.dst (.slice (some ⟨w.heap.size,0,none⟩) 1 1)) (w.alloc (.cells cs.toArray e))):wpList prog ops Q (op::rest) a w:=by
 obtain⟨b,f⟩:∃ b,Tryz.prog.info? e=some b:=by
  cases m:Tryz.prog.info? e with
  | none=>rw [m] at i;cases i
  | some b=>exact⟨b,rfl⟩
 have d:b.size=n:=by rw [f] at i;simpa using i
 obtain⟨z,j⟩:∃ z,b.zero=some z:=by rw [f] at j;exact Option.isSome_iff_exists.1 j
 exact wpList_buildSlice k _ _ 1 #[(0,x)] u cs.toArray b z p f j (by rw [d];omega) (by rw [d];have:(2:Nat) ^ 24=16777216:=rfl;omega) (by
  have l:=zbe q r z;simp only [List.map_toArray,Xf,X3,s,d];exact l) h
theorem J8:((Tryz.prog.info? 49).bind (·.zero)).isSome=true:=Wr
structure jW (W:World)(g:Nat)(w:World)(a1:Option Addr)(c1:Nat)(a2:Option Addr)(c2:Nat)(r o:List (List UInt8)):Prop where
 kept:zb [] W w
 new_:W.heap.size≤g
 box:w.heap[g]? = some (.cells #[.slice a1 r.length c1,.slice a2 o.length c2] 85 (0,0))
 rev:w.ownsRow W.heap.size 49 32 (.slice a1 r.length c1) r.length (r.flatten.map bv)
 oth:w.ownsRow W.heap.size 49 32 (.slice a2 o.length c2) o.length (o.flatten.map bv)
 apart:∀ b,(Value.slice a1 r.length c1).ownBlock=some b→(Value.slice a2 o.length c2).ownBlock≠some b
theorem jW.k0 {g:Nat}{c1:Nat}{c2:Nat}{o:List (List UInt8)}(h:jW W g w a1 c1 a2 c2 r o)(k:zb [] w w'):jW W g w' a1 c1 a2 c2 r o:=
 ⟨h.kept.then k,h.new_,k.heap h.box Wz,zk h.rev k Wz,zk h.oth k Wz,h.apart⟩
theorem out_new (w:World):jW w w.heap.size (w.alloc (.cells #[.slice none 0 0,.slice none 0 0] 85)) none 0 none 0 [] []:=
 ⟨(zb.refl _ w).alloc _,XA,zd rfl,World.ownsRow_nil _ _ _ _,World.ownsRow_nil _ _ _ _,fun _ h=>nomatch h⟩
theorem jW.push0 {g:Nat}{c1:Nat}{c2:Nat}{o:List (List UInt8)}(h:jW W g w a1 c1 a2 c2 r o){c5:Nat}(f:w'.ownsRow W.heap.size 49 32 (.slice a5 (r.length+1) c5) (r.length+1) (r.flatten.map bv++x.map bv))(p:zb (Value.slice a1 r.length c1).ownBlock.toList w w')(l:(Value.slice a5 (r.length+1) c5).ownBlock=(Value.slice a1 r.length c1).ownBlock∨(Value.slice a5 (r.length+1) c5).ownBlock=some w.heap.size) : w'.cell? ⟨g,0,none⟩=some (.slice a1 r.length c1)∧w'.frozen? ⟨g,0,none⟩=false∧jW W g (w'.setCell ⟨g,0,none⟩ (.slice a5 (r.length+1) c5)) a5 c5 a2 c2 (r++[x]) o:=by
 have q:g ∉ (Value.slice a1 r.length c1).ownBlock.toList:=fun d=>xP (yw h.rev (XD d)) (zQ h.box) Wo rfl;have a:=p.heap h.box q;have k:zb [g] w' (w'.setCell ⟨g,0,none⟩ (.slice a5 (r.length+1) c5)):=Wd.setCell (.inl Wz) _;have m:∀ b,(Value.slice a2 o.length c2).ownBlock=some b→b ∉ (Value.slice a1 r.length c1).ownBlock.toList:=fun b e d=>h.apart b (XD d) e;have j:(r++[x]).length=r.length+1:=Wz;have s:((r++[x]).flatten).map bv=r.flatten.map bv++x.map bv:=Wz;refine⟨za a rfl,zh a,⟨?_,h.new_,?_,?_,?_,?_⟩⟩;·exact ((h.kept.trans p (fun i u=>.inr (h.rev.lt i (XD u)).1))).setCell (.inr h.new_) _
 ·rw [j];exact ze a rfl
 ·rw [j,s];exact zk f k (fun b e d=>by
   simp at d;subst d;exact xP (yw f e) (zQ a) Wo rfl)
 ·exact zk (zk h.oth p m) k (fun b e d=>by
   simp at d;subst d;exact xP (yw (zk h.oth p m) e) (zQ a) Wo rfl)
 ·intro b n t;rw [j] at n;rcases l with l | l;·exact h.apart b (l ▸ n) t
  ·rw [l] at n;have:=(h.oth.lt b t).2;cases n;omega
theorem jW.push1 {g:Nat}{c1:Nat}{c2:Nat}{o:List (List UInt8)}(h:jW W g w a1 c1 a2 c2 r o){c5:Nat}(f:w'.ownsRow W.heap.size 49 32 (.slice a5 (o.length+1) c5) (o.length+1) (o.flatten.map bv++x.map bv))(p:zb (Value.slice a2 o.length c2).ownBlock.toList w w')(l:(Value.slice a5 (o.length+1) c5).ownBlock=(Value.slice a2 o.length c2).ownBlock∨(Value.slice a5 (o.length+1) c5).ownBlock=some w.heap.size) : w'.cell? ⟨g,1,none⟩=some (.slice a2 o.length c2)∧w'.frozen? ⟨g,1,none⟩=false∧jW W g (w'.setCell ⟨g,1,none⟩ (.slice a5 (o.length+1) c5)) a1 c1 a5 c5 r (o++[x]):=by
 have q:g ∉ (Value.slice a2 o.length c2).ownBlock.toList:=fun d=>xP (yw h.oth (XD d)) (zQ h.box) Wo rfl;have a:=p.heap h.box q;have k:zb [g] w' (w'.setCell ⟨g,1,none⟩ (.slice a5 (o.length+1) c5)):=Wd.setCell (.inl Wz) _;have m:∀ b,(Value.slice a1 r.length c1).ownBlock=some b→b ∉ (Value.slice a2 o.length c2).ownBlock.toList:=fun b e d=>h.apart b e (XD d);have j:(o++[x]).length=o.length+1:=Wz;have s:((o++[x]).flatten).map bv=o.flatten.map bv++x.map bv:=Wz;refine⟨za a rfl,zh a,⟨?_,h.new_,?_,?_,?_,?_⟩⟩;·exact ((h.kept.trans p (fun i u=>.inr (h.oth.lt i (XD u)).1))).setCell (.inr h.new_) _
 ·rw [j];exact ze a rfl
 ·exact zk (zk h.rev p m) k (fun b e d=>by
   simp at d;subst d;exact xP (yw (zk h.rev p m) e) (zQ a) Wo rfl)
 ·rw [j,s];exact zk f k (fun b e d=>by
   simp at d;subst d;exact xP (yw f e) (zQ a) Wo rfl)
 ·intro b t n;rw [j] at n;rcases l with l | l;·exact h.apart b t (l ▸ n)
  ·rw [l] at n;have:=(h.rev.lt b t).2;cases n;omega
end Go.Proofs.YtjccecajigmfkaaGreatDoor
